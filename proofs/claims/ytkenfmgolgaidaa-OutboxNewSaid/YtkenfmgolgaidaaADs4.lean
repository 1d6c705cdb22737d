/- Texts that the walks and laws lean on, side by side. -/
import Derived.Shelf.SlSortCmp.WholeK
import Derived.Shelf.SlSortCmp.NoneTotal
import Derived.StillTactics
import Derived.RegionTactic
import Derived.Laws.BytesString
import Derived.Laws.IdiomStrings
import Derived.Test.YtkenfmgolgaidaaADs2
import Derived.Test.YtkenfmgolgaidaaADs3
set_option linter.unusedVariables false
set_option linter.unusedSimpArgs false
namespace Go.Ep
open Go.Shelf Go.RowKit Go.Lib Go.Sort Go.Proofs
theorem SortLaw.of{α:Type}[Inhabited α]{P:Program}{f g:FuncId}{k:Nat}{enc:α → List Value}{lt:α → α → Bool}{cf:α → α → Int}(hO:SWO (ltOf cf))(hlt:∀ x y,ltOf cf x y=lt x y)(hk:∀ x,(enc x).length=k)
  (hnil:∀ w:World,Calls P f #[.slice none 0 0,.func (.func g) #[] #[]] w fun e w'=>e=.returned (.tuple #[]) ∧ Go.RowKit.Below w.heap.size w w')
  (hrow:∀ (blk off cap:Nat) (d:Array α) (w:World),HoldsK enc k w blk off d → blk < w.heap.size → d.size < 4611686018427387904 →
   Calls P f #[.slice (some ⟨blk,off,none⟩) d.size cap,.func (.func g) #[] #[]] w fun e w'=>e=.returned (.tuple #[]) ∧ ∃ n os,w'=sortWorldK enc k w blk off n (pdq (ltOf cf) d 0 d.size (Lib.bitLen d.size) true true) os):SortLaw P f g k enc lt:=by
 refine⟨hnil,fun w blk cap l T cur hh hlc hcs hlen hcells=>?_⟩;have hblk:blk < w.heap.size:=(Array.getElem?_eq_some_iff.1 hh).1;have hH:HoldsK enc k w blk 0 l.toArray:=by
  intro j hj;rw[size_flatK] at hj;have hj':j < l.length*k:=by simpa using hj
  obtain⟨hk0,h1,h2,h3⟩:=idx_split hj'
  constructor
  ·rw[Nat.zero_add,cell_of_heap hh];show _=some ((flatK enc k l.toArray)[j]!);rw[get_flatK _ _ _ _ hj];have hx:l[j / k]?=some l[j / k]:=List.getElem?_eq_getElem h1;have hlk:(enc l[j / k]).length=k:=hk _;have hu:(enc l[j / k])[j % k]?=some ((enc l[j / k])[j % k]'(by omega)):=List.getElem?_eq_getElem (by omega);have:=hcells (j / k) _ (j % k) _ hx hu;rw[h3] at this;rw[this];have e1:(l.toArray)[j / k]! = l[j / k]:=by simp[h1]
   rw[e1];simp[hu]
  ·simp[World.frozen?,hh]
 have hd:l.toArray.size=l.length:=by simp
 have hcall:=hrow blk 0 cap l.toArray w hH hblk (by simpa using hlen);rw[hd] at hcall;refine hcall.mono fun e w' ⟨he,n,os,hw⟩=>⟨he,?_⟩
 have hp:=pdq_sorts (ltOf cf) hO l.toArray 0 l.toArray.size (Lib.bitLen l.toArray.size) true true (Nat.zero_le _) (Nat.le_refl _) (Or.inl rfl);rw[hd] at hp
 generalize pdq (ltOf cf) l.toArray 0 l.length (Lib.bitLen l.length) true true=d' at hp hw
 obtain⟨⟨hsz,_,hperm⟩,hsort⟩:=hp;have hsz':d'.size=l.length:=by simpa using hsz
 have hp':d'.toList.Perm l:=by
  have e1:(d'.extract 0 l.length).toList=d'.toList:=by rw[← hsz'];simp
  have e2:(l.toArray.extract 0 l.length).toList=l:=by simp
  rw[e1,e2] at hperm;exact hperm
 have hmod:∀ b,b < w.heap.size → (sortWorldK enc k w blk 0 n d' os).heap[b]?=if blk=b then (w.heap[b]?).map (onCells (putCells id 0 (flatK enc k d'))) else w.heap[b]?:=by
  intro b hb;have hb2:b < (putRowK enc k (Sort.ahead w n) blk 0 d').heap.size:=by simpa[putRowK,Sort.ahead] using hb
  show(grow (putRowK enc k (Sort.ahead w n) blk 0 d') os).heap[b]?=_;rw[Sort.heap_grow_old _ _ hb2];show((w.heap.modify blk (onCells (putCells id 0 (flatK enc k d')))))[b]?=_;rw[Array.getElem?_modify]
 subst hw;refine⟨d'.toList,(putCells id 0 (flatK enc k d') cur.toArray).toList,hp',?_,?_,?_,?_,rfl,rfl,rfl,?_,?_⟩
 ·rw[List.pairwise_iff_getElem];intro i j hi hj hij;have:=hsort i j (Nat.zero_le _) hij (by simpa[hsz'] using hj);rw[hlt] at this;have hi':i < d'.size:=by simpa using hi
  have hj':j < d'.size:=by simpa using hj
  simpa[hi',hj'] using this
 ·rw[hmod blk hblk,if_pos rfl,hh];simp[onCells]
 ·simp[putCells]
 ·intro i x j u hi hu;have hi':i < l.length:=by rw[← hsz'];have:=(List.getElem?_eq_some_iff.1 hi).1;simpa using this
  have hj:j < k:=by rw[← hk x];exact(List.getElem?_eq_some_iff.1 hu).1
  have hlt2:i*k+j < l.length*k:=idx_lt hi' hj;have hcl:l.length*k ≤ cur.length:=by rw[hcs];exact Nat.mul_le_mul_right k hlc
  have hin:i*k+j < d'.size*k:=by rw[hsz'];exact hlt2
  have hget:(flatK enc k d')[i*k+j]! = u:=by
   rw[get_flatK _ _ _ _ hin];have hk0:0 < k:=by omega
   have e1:(i*k+j) / k=i:=by rw[Nat.mul_comm,Nat.mul_add_div hk0,Nat.div_eq_of_lt hj];omega
   have e2:(i*k+j) % k=j:=by rw[Nat.mul_comm,Nat.mul_add_mod,Nat.mod_eq_of_lt hj]
   rw[e1,e2];have e3:d'[i]! = x:=by
    obtain⟨h1,h2⟩:=List.getElem?_eq_some_iff.1 hi;have h1':i < d'.size:=by simpa using h1
    rw[getElem!_pos d' i h1'];simpa using h2
   rw[e3];simp[hu]
  have hc2:i*k+j < cur.length:=by omega
  simp only[putCells,Array.toList_mapIdx,List.getElem?_mapIdx];rw[List.getElem?_eq_getElem hc2];simp only[Option.map_some,id];rw[if_pos ⟨Nat.zero_le _,by rw[size_flatK];omega⟩,Nat.sub_zero,hget]
 ·show w.heap.size ≤ (grow (putRowK enc k (Sort.ahead w n) blk 0 d') os).heap.size;simp[grow,putRowK,Sort.ahead]
 ·intro b hb hne;rw[hmod b hb,if_neg (Ne.symm hne)]
end Go.Ep
namespace Go.Proofs
set_option linter.unusedSimpArgs false
set_option linter.unusedVariables false
open Go.Shelf Go.RowKit Go.Lib Go.Sort Go.Ep
theorem nanu16(a:Int)(W:World):Calls Try.prog 65 #[.int .u16 a] W fun e w'=>e=.returned (.bool false) ∧ w'=W:=by
 go_enter Try.func65,Try.ntmps65
 go_wp2
 go_ret
 exact⟨by simp,rfl⟩
theorem cmpu16(a b:Int)(W:World):Calls Try.prog 51 #[.int .u16 a,.int .u16 b] W fun e w'=>e=.returned (.int .i64 (Lib.compareInt a b)) ∧ w'=W:=by
 unfold Lib.compareInt
 by_cases h1:a < b
 ·go_enter Try.func51,Try.ntmps51
  go_wp2_with (go_at_call 65;refine(nanu16 _ _).mono ?_;rintro e w' ⟨rfl,rfl⟩)
  go_ret
  exact⟨by simp[h1],rfl⟩
 ·by_cases h2:b < a
  ·go_enter Try.func51,Try.ntmps51
   go_wp2_with (go_at_call 65;refine(nanu16 _ _).mono ?_;rintro e w' ⟨rfl,rfl⟩)
   go_ret
   exact⟨by simp[h1,h2],rfl⟩
  ·go_enter Try.func51,Try.ntmps51
   go_wp2_with (go_at_call 65;refine(nanu16 _ _).mono ?_;rintro e w' ⟨rfl,rfl⟩)
   go_ret
   exact⟨by simp[h1,h2],rfl⟩
theorem nanu64(a:Int)(W:World):Calls Try.prog 54 #[.int .u64 a] W fun e w'=>e=.returned (.bool false) ∧ w'=W:=by
 go_enter Try.func54,Try.ntmps54
 go_wp2
 go_ret
 exact⟨by simp,rfl⟩
theorem cmpu64(a b:Int)(W:World):Calls Try.prog 47 #[.int .u64 a,.int .u64 b] W fun e w'=>e=.returned (.int .i64 (Lib.compareInt a b)) ∧ w'=W:=by
 unfold Lib.compareInt
 by_cases h1:a < b
 ·go_enter Try.func47,Try.ntmps47
  go_wp2_with (go_at_call 54;refine(nanu64 _ _).mono ?_;rintro e w' ⟨rfl,rfl⟩)
  go_ret
  exact⟨by simp[h1],rfl⟩
 ·by_cases h2:b < a
  ·go_enter Try.func47,Try.ntmps47
   go_wp2_with (go_at_call 54;refine(nanu64 _ _).mono ?_;rintro e w' ⟨rfl,rfl⟩)
   go_ret
   exact⟨by simp[h1,h2],rfl⟩
  ·go_enter Try.func47,Try.ntmps47
   go_wp2_with (go_at_call 54;refine(nanu64 _ _).mono ?_;rintro e w' ⟨rfl,rfl⟩)
   go_ret
   exact⟨by simp[h1,h2],rfl⟩
def cf41(x y:TDot):Int:=if Lib.compareInt x.dev y.dev≠0 then Lib.compareInt x.dev y.dev else Lib.compareInt x.n y.n
theorem callcf41(x y:TDot)(W:World):Calls Try.prog 42 #[.agg #[.int .u16 x.dev,.int .u64 x.n],.agg #[.int .u16 y.dev,.int .u64 y.n]] W fun e w'=>e=.returned (.int .i64 (cf41 x y)) ∧ ∃ q os',w'=grow (W.drewN q) os':=by
 have c1:=fun W'=>cmpu16 x.dev y.dev W'
 have c2:=fun W'=>cmpu64 x.n y.n W'
 unfold cf41
 generalize Lib.compareInt x.dev y.dev=r1 at c1 ⊢
 generalize Lib.compareInt x.n y.n=r2 at c2 ⊢
 by_cases h:r1=0
 ·subst h
  go_enter Try.func42,Try.ntmps42
  go_wp2_with (first | (go_at_call 51;refine(c1 _).mono ?_;rintro e w' ⟨rfl,rfl⟩) | (go_at_call 47;refine(c2 _).mono ?_;rintro e w' ⟨rfl,rfl⟩))
  go_ret
  exact⟨by simp,0,_,by rw[alloc_eq_grow,alloc_eq_grow,grow_grow];rfl⟩
 ·go_enter Try.func42,Try.ntmps42
  go_wp2_with (first | (go_at_call 51;refine(c1 _).mono ?_;rintro e w' ⟨rfl,rfl⟩) | (go_at_call 47;refine(c2 _).mono ?_;rintro e w' ⟨rfl,rfl⟩))
  go_ret
  exact⟨by simp[h],0,_,by rw[alloc_eq_grow,alloc_eq_grow,grow_grow];rfl⟩
theorem ltcf41(x y:TDot):ltOf cf41 x y=ltDot x y:=by
 unfold ltOf cf41 Lib.compareInt ltDot;rw[Bool.eq_iff_iff];simp only[decide_eq_true_eq,Bool.or_eq_true,Bool.and_eq_true]
 split <;> (repeat' split) <;> omega
theorem swocf41 : SWO (ltOf cf41) where
 irrefl x:=by rw[ltcf41];simp[ltDot]
 trans x y z h1 h2:=by rw[ltcf41] at *;simp[ltDot] at *;omega
 ntrans x y z h1 h2:=by rw[ltcf41] at *;simp[ltDot] at *;omega
instance inhcf41 : Inhabited TDot:=⟨⟨0,0⟩⟩
theorem layscf41(blk off size:Nat)(w:World):CmpLays Try.prog 42 #[] TDot.v 2 cf41 blk off size w:=fun _ _ _ _ x y=>callcf41 x y _
set_option maxHeartbeats 2000000 in
set_option maxRecDepth 100000 in
theorem sort41_eq(blk off cap:Nat)(d:Array TDot)(w:World)(hH:HoldsK TDot.v 2 w blk off d)(hblk:blk < w.heap.size)(hsz:d.size < 4611686018427387904) :
  Calls Try.prog 41 #[.slice (some ⟨blk,off,none⟩) d.size cap,.func (.func 42) #[] #[]] w fun e w'=>e=.returned (.tuple #[]) ∧ ∃ n os,w'=sortWorldK TDot.v 2 w blk off n (pdq (ltOf cf41) d 0 d.size (Lib.bitLen d.size) true true) os:=by
 have eg:∀ args w,(callFunc 42 args).run Try.prog w=.ok (.enter 42 args) w:=Try.call42;have e14:=Try.call49;have e15:=Try.call50;have hlim:Lib.bitLen d.size < 4611686018427387904:=Nat.lt_of_le_of_lt (Lib.bitLen_le d.size 62 (by omega) (by omega)) (by omega);have hp:=AnyQ.pdqsortCmpFunc_all Try.pdq49 2 Try.isAgg34 Try.sizeOf34 TDot.v cf41 42 #[] swocf41 blk off cap d w eg (layscf41 blk off d.size w) ⟨fun _=>rfl,TDot.v1,hH,hblk⟩ (d.size+1) 0 d.size (Lib.bitLen d.size) d w (by omega) rfl (SWK.start hH) (Nat.zero_le _) (Nat.le_refl _) hsz hlim (Or.inl rfl)
 change Calls Try.prog 49 _ _ _ at hp
 have hl:Calls Try.prog 50 #[.int .u64 (d.size:Int)] w fun e w'=>e=.returned (.int .i64 (Lib.bitLen d.size:Nat)) ∧ w'=w:=by
  have h:=Any.bits_Len (SlLaysF0.n15.bits Try.bits50) (d.size:Int) w (by omega) (by omega)
  rwa [Int.toNat_natCast] at h
 have wr:IntKind.u64.wrap (d.size:Int)=d.size:=by simp[IntKind.wrap,IntKind.bits,IntKind.signed];omega
 clear hH
 go_enter Try.func41,Try.ntmps41
 go_wp2_with (first | (go_at_call 50;refine hl.mono ?_;rintro e w' ⟨rfl,rfl⟩) | (go_at_call 49;refine hp.mono ?_;rintro e w' ⟨rfl,n,os,rfl⟩))
 go_end0
 exact⟨rfl,n,os,rfl⟩
theorem sort41_nil(w:World):Calls Try.prog 41 #[.slice none 0 0,.func (.func 42) #[] #[]] w fun e w'=>e=.returned (.tuple #[]) ∧ Go.RowKit.Below w.heap.size w w':=by
 have e14:=Try.call49;have e15:=Try.call50;have hp:=fun lim W=>AnyF.pdqsortCmpFunc_none Try.pdq49 none 0 lim (.func (.func 42) #[] #[]) W
 have hl:∀ W,Calls Try.prog 50 #[.int .u64 0] W fun e w'=>e=.returned (.int .i64 (Lib.bitLen 0:Nat)) ∧ w'=W:=fun W=>by
  have h:=Any.bits_Len (SlLaysF0.n15.bits Try.bits50) 0 W (by omega) (by omega);exact h
 go_enter Try.func41,Try.ntmps41
 go_wp2_with (first | (go_at_call 50;refine(hl _).mono ?_;rintro e w' ⟨rfl,rfl⟩) | (go_at_call 49;refine(hp _ _).mono ?_;rintro e w' ⟨rfl,rfl⟩))
 go_end0
 exact⟨rfl,Go.RowKit.Below.refl _ _⟩
theorem srt41_42 : SortLaw Try.prog 41 42 2 TDot.v ltDot:=SortLaw.of swocf41 ltcf41 (fun _=>rfl) sort41_nil (fun blk off cap d w hH hblk hsz=>sort41_eq blk off cap d w hH hblk hsz)
def cf52(x y:TRun):Int:=Lib.compareInt x.lo y.lo
theorem callcf52(x y:TRun)(W:World):Calls Try.prog 53 #[.agg #[.int .u64 x.lo,.int .u64 x.hi],.agg #[.int .u64 y.lo,.int .u64 y.hi]] W fun e w'=>e=.returned (.int .i64 (cf52 x y)) ∧ ∃ q os',w'=grow (W.drewN q) os':=by
 have c1:=fun W'=>cmpu64 x.lo y.lo W'
 unfold cf52
 generalize Lib.compareInt x.lo y.lo=r1 at c1 ⊢
 go_enter Try.func53,Try.ntmps53
 go_wp2_with (go_at_call 47;refine(c1 _).mono ?_;rintro e w' ⟨rfl,rfl⟩)
 go_ret
 exact⟨rfl,0,_,by rw[alloc_eq_grow,alloc_eq_grow,grow_grow];rfl⟩
theorem ltcf52(x y:TRun):ltOf cf52 x y=ltRun x y:=by
 unfold ltOf cf52 Lib.compareInt ltRun;rw[Bool.eq_iff_iff];simp only[decide_eq_true_eq,Bool.or_eq_true,Bool.and_eq_true]
 split <;> (repeat' split) <;> omega
theorem swocf52 : SWO (ltOf cf52) where
 irrefl x:=by rw[ltcf52];simp[ltRun]
 trans x y z h1 h2:=by rw[ltcf52] at *;simp[ltRun] at *;omega
 ntrans x y z h1 h2:=by rw[ltcf52] at *;simp[ltRun] at *;omega
instance inhcf52 : Inhabited TRun:=⟨⟨0,0⟩⟩
theorem layscf52(blk off size:Nat)(w:World):CmpLays Try.prog 53 #[] TRun.v 2 cf52 blk off size w:=fun _ _ _ _ x y=>callcf52 x y _
set_option maxHeartbeats 2000000 in
set_option maxRecDepth 100000 in
theorem sort52_eq(blk off cap:Nat)(d:Array TRun)(w:World)(hH:HoldsK TRun.v 2 w blk off d)(hblk:blk < w.heap.size)(hsz:d.size < 4611686018427387904) :
  Calls Try.prog 52 #[.slice (some ⟨blk,off,none⟩) d.size cap,.func (.func 53) #[] #[]] w fun e w'=>e=.returned (.tuple #[]) ∧ ∃ n os,w'=sortWorldK TRun.v 2 w blk off n (pdq (ltOf cf52) d 0 d.size (Lib.bitLen d.size) true true) os:=by
 have eg:∀ args w,(callFunc 53 args).run Try.prog w=.ok (.enter 53 args) w:=Try.call53;have e14:=Try.call66;have e15:=Try.call50;have hlim:Lib.bitLen d.size < 4611686018427387904:=Nat.lt_of_le_of_lt (Lib.bitLen_le d.size 62 (by omega) (by omega)) (by omega);have hp:=AnyQ.pdqsortCmpFunc_all Try.pdq66 2 Try.isAgg66 Try.sizeOf66 TRun.v cf52 53 #[] swocf52 blk off cap d w eg (layscf52 blk off d.size w) ⟨fun _=>rfl,TRun.v1,hH,hblk⟩ (d.size+1) 0 d.size (Lib.bitLen d.size) d w (by omega) rfl (SWK.start hH) (Nat.zero_le _) (Nat.le_refl _) hsz hlim (Or.inl rfl)
 change Calls Try.prog 66 _ _ _ at hp
 have hl:Calls Try.prog 50 #[.int .u64 (d.size:Int)] w fun e w'=>e=.returned (.int .i64 (Lib.bitLen d.size:Nat)) ∧ w'=w:=by
  have h:=Any.bits_Len (SlLaysF0.n15.bits Try.bits50) (d.size:Int) w (by omega) (by omega)
  rwa [Int.toNat_natCast] at h
 have wr:IntKind.u64.wrap (d.size:Int)=d.size:=by simp[IntKind.wrap,IntKind.bits,IntKind.signed];omega
 clear hH
 go_enter Try.func52,Try.ntmps52
 go_wp2_with (first | (go_at_call 50;refine hl.mono ?_;rintro e w' ⟨rfl,rfl⟩) | (go_at_call 66;refine hp.mono ?_;rintro e w' ⟨rfl,n,os,rfl⟩))
 go_end0
 exact⟨rfl,n,os,rfl⟩
theorem sort52_nil(w:World):Calls Try.prog 52 #[.slice none 0 0,.func (.func 53) #[] #[]] w fun e w'=>e=.returned (.tuple #[]) ∧ Go.RowKit.Below w.heap.size w w':=by
 have e14:=Try.call66;have e15:=Try.call50;have hp:=fun lim W=>AnyF.pdqsortCmpFunc_none Try.pdq66 none 0 lim (.func (.func 53) #[] #[]) W
 have hl:∀ W,Calls Try.prog 50 #[.int .u64 0] W fun e w'=>e=.returned (.int .i64 (Lib.bitLen 0:Nat)) ∧ w'=W:=fun W=>by
  have h:=Any.bits_Len (SlLaysF0.n15.bits Try.bits50) 0 W (by omega) (by omega);exact h
 go_enter Try.func52,Try.ntmps52
 go_wp2_with (first | (go_at_call 50;refine(hl _).mono ?_;rintro e w' ⟨rfl,rfl⟩) | (go_at_call 66;refine(hp _ _).mono ?_;rintro e w' ⟨rfl,rfl⟩))
 go_end0
 exact⟨rfl,Go.RowKit.Below.refl _ _⟩
theorem srt52_53 : SortLaw Try.prog 52 53 2 TRun.v ltRun:=SortLaw.of swocf52 ltcf52 (fun _=>rfl) sort52_nil (fun blk off cap d w hH hblk hsz=>sort52_eq blk off cap d w hH hblk hsz)
end Go.Proofs
namespace Go.Ep
open Go.RowKit
def RowAt(w:World)(e:TypeId)(k:Nat)(l:List (List DV)):Option (Nat×Nat) → Value → Prop
 | none,v=>l=[] ∧ v=.slice none 0 0
 | some (b,cap),v=>v=.slice (some ⟨b,0,none⟩) l.length cap ∧ ∃ cur:List Value,w.heap[b]?=some (.cells cur.toArray e (0,0)) ∧ l.length ≤ cap ∧ cap ≤ maxLen ∧ cur.length=cap*k ∧ (∀ (i:Nat) (cs:List DV),l[i]?=some cs → cs.length=k) ∧
   ∀ (i:Nat) (cs:List DV) (j:Nat) (x:DV),l[i]?=some cs → cs[j]?=some x → ∃ u,cur[i*k+j]?=some u ∧ x=.v u ∧ u.oneCell'=true
def PlainL(l:List (List DV)):Prop:=∀ cs∈l,∀ x∈cs,∃ u,x=DV.v u
abbrev RowsM:=List (List Int×List (List DV))
def rowsM(R:RowsM):Mp:=R.map fun p=>(p.1,[DV.sl p.2])
def Dt(ctx:Ctx)(mb:Nat)(blk:Nat → Option (Nat×Nat))(b:Nat):Prop:=(ctx.S b ∨ ctx.w0.heap.size ≤ b) ∧ b≠mb ∧ ∀ i c,blk i≠some (b,c)
structure RelT(ctx:Ctx)(ks:List IntKind)(e:TypeId)(k mid n:Nat)(sl:List (Nat×PV))(R:RowsM)(a:Act)(w:World)(g:Ghost)(mb:Nat)(blk:Nat → Option (Nat×Nat))(es:Array MapEntry)(ck:Nat):Prop where
 defers:a.defers=[]
 size:a.tmps.size=n
 slots:∀ i p,(PState.mk n sl []).at i=some p → Rd w g (Dt ctx mb blk) p (a.tmps.getD i undef)
 gm:∃ q,g mid=some (mb,q)
 lt:mb < w.heap.size ∧ (ctx.w0.heap.size ≤ mb ∨ ctx.K mb)
 hh:w.heap[mb]?=some (.map es ck)
 sz:es.size=R.length
 below:∀ b∈es.toList.map (·.born),b < ck
 nodup:(es.toList.map (·.born)).Nodup
 ent:∀ (i:Nat) (ns:List Int) (l:List (List DV)),R[i]?=some (ns,l) → ∃ x,es[i]?=some x ∧ x.key=keyV ks ns ∧ ns.length=ks.length ∧ RowAt w e k l (blk i) x.val
 inj:∀ i j b c c',blk i=some (b,c) → blk j=some (b,c') → i=j
 own:∀ i b c,blk i=some (b,c) → b < w.heap.size ∧ (ctx.w0.heap.size ≤ b ∨ ctx.K b) ∧ b≠mb
 out:∀ i,R.length ≤ i → blk i=none
 os:w.os=ctx.w0.os
 tape:w.tape=ctx.w0.tape
 output:w.output=ctx.w0.output
 grows:ctx.w0.heap.size ≤ w.heap.size
 keep:∀ q,q < ctx.w0.heap.size → ¬ ctx.K q → w.heap[q]?=ctx.w0.heap[q]?
theorem at_mem{n:Nat}{sl:List (Nat×PV)}{o:List (Nat×Ob)}{i:Nat}{p:PV}(h:(PState.mk n sl o).at i=some p):(i,p)∈sl:=getS_mem (at_get h)
theorem rd_row{w:World}{g:Ghost}{S:Nat → Prop}{id n:Nat}{u:Value}(h:Rd w g S (.row id n) u):(∃ b c,g id=some (b,c) ∧ u=.slice (some ⟨b,0,none⟩) n c) ∨ (g id=none ∧ n=0 ∧ u=.slice none 0 0):=by
 cases h with
 | row _ _ b c h=>exact .inl ⟨b,c,h,rfl⟩
 | rowNil _ h=>exact .inr ⟨h,rfl,rfl⟩
section
variable{ctx:Ctx}{ks:List IntKind}{e:TypeId}{k mid n:Nat}{sl:List (Nat×PV)}{a:Act}{w:World}{g:Ghost}
theorem RelT.start{bs0:List Nat}{ck0:Nat}(h:RelG ctx g ⟨n,sl,[(mid,.map ks false [] bs0 ck0)]⟩ a w):∃ mb es ck,RelT ctx ks e k mid n sl [] a w g mb (fun _=>none) es ck:=by
 have hl:look [(mid,Ob.map ks false [] bs0 ck0)] mid=some (.map ks false [] bs0 ck0):=by simp[look]
 cases h.objs mid _ hl with
 | map _ _ _ _ _ blk q es hg hh hm=>
  refine⟨blk,es,ck0,h.defers,h.size,fun i p hp=>?_,⟨q,hg⟩,h.own mid _ blk q hl hg,hh,hm.size,by rw[← hm.stamps];exact hm.below,by rw[← hm.stamps];exact hm.nodup,(fun i ns l hi=>by simp at hi),(fun i j b c c' hi=>by cases hi),(fun i b c hi=>by cases hi),fun _ _=>rfl,h.os,h.tape,h.output,h.grows,h.keep⟩;refine(h.slots i p hp).keep ⟨Nat.le_refl _,fun _ _ _=>rfl⟩ (fun b hb _=>⟨hb.1,fun eb=>?_,fun i c hc=>by cases hc⟩) (fun _ _=>rfl);subst eb;exact hb.2 mid _ q hl hg
theorem cell_cur{b:Nat}{cur:List Value}(hh:w.heap[b]?=some (.cells cur.toArray e (0,0)))(o:Nat):w.cell? ⟨b,o,none⟩=cur[o]?:=cell_of_heap hh o
theorem RelT.done{R:RowsM}{mb:Nat}{blk:Nat → Option (Nat×Nat)}{es:Array MapEntry}{ck:Nat}(hK:∀ b,ctx.K b → ctx.S b)(h:RelT ctx ks e k mid n sl R a w g mb blk es ck):RelG ctx g ⟨n,sl,[(mid,.map ks false (rowsM R) (es.toList.map (·.born)) ck)]⟩ a w:=by
 obtain⟨q,hg⟩:=h.gm;have hlk:∀ id o,look [(mid,Ob.map ks false (rowsM R) (es.toList.map (·.born)) ck)] id=some o → id=mid:=fun id o ho=>by
  simp only[look] at ho
  split at ho
  ·assumption
  ·cases ho
 have hfree:∀ b,(ctx.S b ∨ ctx.w0.heap.size ≤ b) → b≠mb → Free ctx g [(mid,Ob.map ks false (rowsM R) (es.toList.map (·.born)) ck)] b:=fun b h1 h2=>⟨h1,fun id o m ho hgi=>by
  rw[hlk id o ho,hg] at hgi;cases hgi;exact h2 rfl⟩
 refine⟨h.defers,h.size,fun i p hp=>?_,fun id o ho=>?_,fun i j oi oj b m m' hi hj _ _=>by rw[hlk i oi hi,hlk j oj hj],fun id o b m ho hgi=>?_,h.os,h.tape,h.output,h.grows,h.keep⟩
 ·exact(h.slots i p hp).keep ⟨Nat.le_refl _,fun _ _ _=>rfl⟩ (fun b hb _=>hfree b hb.1 hb.2.1) (fun _ _=>rfl)
 ·have hid:=hlk id o ho;subst hid;simp only[look,if_true] at ho
  cases ho
  refine .map ks false _ _ ck mb q es hg h.hh ⟨by simp[rowsM,h.sz],rfl,h.below,h.nodup,fun i ns cs hi=>?_⟩;unfold rowsM at hi;rw[List.getElem?_map] at hi
  cases hR:R[i]? with
  | none=>rw[hR] at hi;cases hi
  | some r=>
   obtain⟨ns',l⟩:=r;rw[hR] at hi;simp only[Option.map_some,Option.some.injEq,Prod.mk.injEq] at hi;obtain⟨rfl,rfl⟩:=hi;obtain⟨x,h1,h2,h3,h4⟩:=h.ent i _ l hR;have hd:DRd w (Free ctx g [(id,Ob.map ks false (rowsM R) (es.toList.map (·.born)) ck)]) (.sl l) x.val:=by
    cases hb:blk i with
    | none=>
     rw[hb] at h4;obtain⟨rfl,hv⟩:=h4;rw[hv];exact .nil none 0 (Nat.zero_le _) (fun _=>rfl)
    | some bc=>
     obtain⟨b,cap⟩:=bc;rw[hb] at h4;obtain⟨hv,cur,hc,hlc,hcap,hcl,hkk,hr⟩:=h4;rw[hv];obtain⟨o1,o2,o3⟩:=h.own i b cap hb;refine .sl l b 0 cap k (fun i j=>cur.getD (i*k+j) undef) hlc hcap (hfree b (o2.elim .inr fun q=>.inl (hK b q)) o3) o1 hkk (fun i' j' hi' hj'=>?_) fun i' cs j' x' hi' hx'=>?_
     ·rw[cell_cur hc,Nat.zero_add];have:i'*k+j' < cur.length:=by rw[hcl];exact idx_lt (by omega) hj'
      simp[List.getD,this]
     ·obtain⟨u,hu,rfl,h1⟩:=hr i' cs j' x' hi' hx';simp only[List.getD,hu,Option.getD_some];exact .v u h1
   refine⟨x,[x.val],h1,h2,rfl,rfl,fun _=>rfl,fun u hu=>by rw[List.mem_singleton] at hu;rw[hu];exact hd.one,h3,fun j y u hy hu=>?_⟩
   cases j with
   | zero=>simp at hy hu;subst hy;subst hu;exact hd
   | succ j=>simp at hy
 ·rw[hlk id o ho,hg] at hgi
  cases hgi
  exact h.lt
def valsT(R:RowsM)(es:Array MapEntry):List (List Int×Value):=List.zipWith (fun r x=>(r.1,x.val)) R es.toList
theorem valsT_len{R:RowsM}{es:Array MapEntry}(h:es.size=R.length):(valsT R es).length=R.length:=by simp[valsT,h]
theorem valsT_fst{R:RowsM}{es:Array MapEntry}(h:es.size=R.length):(valsT R es).map (·.1)=R.map (·.1):=by
 apply List.ext_getElem?;intro i;simp only[valsT,List.getElem?_map,List.getElem?_zipWith]
 cases hR:R[i]? with
 | none=>simp
 | some r=>
  have:i < es.toList.length:=by have:=(List.getElem?_eq_some_iff.1 hR).1;simp;omega
  simp[List.getElem?_eq_getElem this]
theorem valsT_get{R:RowsM}{es:Array MapEntry}{i:Nat}{ns:List Int}{u:Value}(h:(valsT R es)[i]?=some (ns,u)):∃ l x,R[i]?=some (ns,l) ∧ es[i]?=some x ∧ x.val=u:=by
 simp only[valsT,List.getElem?_zipWith] at h
 cases hR:R[i]? with
 | none=>rw[hR] at h;cases h
 | some r=>
  cases hx:es.toList[i]? with
  | none=>rw[hR,hx] at h;cases h
  | some x=>
   rw[hR,hx] at h;simp only[Option.some.injEq,Prod.mk.injEq] at h;exact⟨r.2,x,by rw[← h.1],by simpa using hx,h.2⟩
theorem valsT_of{R:RowsM}{es:Array MapEntry}{i:Nat}{ns:List Int}{l:List (List DV)}{x:MapEntry}(h:R[i]?=some (ns,l))(hx:es[i]?=some x):(valsT R es)[i]?=some (ns,x.val):=by
 have hx':es.toList[i]?=some x:=by simpa using hx
 rw[valsT,List.getElem?_zipWith,h,hx']
def ctxT(ctx:Ctx)(mb:Nat)(blk:Nat → Option (Nat×Nat))(j:Nat)(w:World):Ctx:=⟨w,Dt ctx mb blk,fun b=>b=mb ∨ ∃ c,blk j=some (b,c)⟩
section
variable{R:RowsM}{mb:Nat}{blk:Nat → Option (Nat×Nat)}{es:Array MapEntry}{ck:Nat}
theorem RelT.found(h:RelT ctx ks e k mid n sl R a w g mb blk es ck)(hnm:∀ x∈sl,∀ id,x.2.has id=true → id=mid)(hm:mid≠50){j:Nat}{ns:List Int}{l:List (List DV)}(hj:R[j]?=some (ns,l)) :
  RelG (ctxT ctx mb blk j w) (upd g 50 (blk j)) ⟨n,sl,[(mid,.mapP ks (valsT R es) (some (j,.row 50 l.length)) (es.toList.map (·.born)) ck),(50,.row e k l)]⟩ a w:=by
 obtain⟨q,hg⟩:=h.gm;have hgm:upd g 50 (blk j) mid=some (mb,q):=by rw[upd_ne hm];exact hg
 have hg5:upd g 50 (blk j) 50=blk j:=upd_same _ _ _;have hlk:∀ id o,look [(mid,Ob.mapP ks (valsT R es) (some (j,.row 50 l.length)) (es.toList.map (·.born)) ck),(50,Ob.row e k l)] id=some o → (id=mid ∧ o=.mapP ks (valsT R es) (some (j,.row 50 l.length)) (es.toList.map (·.born)) ck) ∨ (id=50 ∧ o=.row e k l):=fun id o ho=>by
  simp only[look] at ho
  split at ho
  ·cases ho;exact .inl ⟨by assumption,rfl⟩
  ·split at ho
   ·cases ho;exact .inr ⟨by assumption,rfl⟩
   ·cases ho
 have hfree:∀ b,Dt ctx mb blk b → Free (ctxT ctx mb blk j w) (upd g 50 (blk j)) [(mid,Ob.mapP ks (valsT R es) (some (j,.row 50 l.length)) (es.toList.map (·.born)) ck),(50,Ob.row e k l)] b:=fun b hb=>⟨.inl hb,fun id o m ho hgi=>by
  rcases hlk id o ho with⟨rfl,_⟩ | ⟨rfl,_⟩
  ·rw[hgm] at hgi;cases hgi;exact hb.2.1 rfl
  ·rw[hg5] at hgi;exact hb.2.2 j m hgi⟩
 obtain⟨x,h1,h2,h3,h4⟩:=h.ent j ns l hj;refine⟨h.defers,h.size,fun i p hp=>?_,fun id o ho=>?_,fun i i' oi oj b m m' hi hi' hgi hgj=>?_,fun id o b m ho hgi=>?_,rfl,rfl,rfl,Nat.le_refl _,fun _ _ _=>rfl⟩
 ·exact(h.slots i p hp).keep ⟨Nat.le_refl _,fun _ _ _=>rfl⟩ (fun b hb _=>hfree b hb) (fun id hid=>by rw[hnm _ (at_mem hp) id hid,hgm,hg])
 ·rcases hlk id o ho with⟨rfl,rfl⟩ | ⟨rfl,rfl⟩
  ·refine .mapP ks _ _ _ ck mb q es hgm h.hh (by rw[valsT_len h.sz,h.sz]) rfl h.below h.nodup (fun i ns' u hi=>?_) fun j' p hjp=>?_
   ·obtain⟨l',x',r1,r2,r3⟩:=valsT_get hi;obtain⟨x2,s1,s2,s3,s4⟩:=h.ent i ns' l' r1;rw[r2] at s1;cases s1;refine⟨x',r2,s2,s3,?_,fun _=>r3⟩
    cases hb:blk i with
    | none=>rw[hb] at s4;rw[s4.2];rfl
    | some bc=>obtain⟨b,c⟩:=bc;rw[hb] at s4;rw[s4.1];rfl
   ·cases hjp
    refine⟨x,h1,?_⟩
    cases hb:blk j with
    | none=>rw[hb] at h4;obtain⟨rfl,hv⟩:=h4;rw[hv];exact .rowNil 50 (upd_same _ _ _)
    | some bc=>obtain⟨b,c⟩:=bc;rw[hb] at h4;rw[h4.1];exact .row 50 _ b c (upd_same _ _ _)
  ·cases hb:blk j with
   | none=>rw[hb] at h4;obtain⟨rfl,hv⟩:=h4;exact .rowNil e k (upd_same _ _ _)
   | some bc=>
    obtain⟨b,c⟩:=bc;rw[hb] at h4;obtain⟨hv,cur,hc,hlc,hcap,hcl,hkk,hr⟩:=h4;refine .row e k l b c cur (upd_same _ _ _) hc hlc hcap hcl hkk fun i' cs j' x' hi' hx'=>?_
    obtain⟨u,hu,rfl,ho1⟩:=hr i' cs j' x' hi' hx';exact⟨u,hu,.v u ho1⟩
 ·rcases hlk i oi hi with⟨rfl,_⟩ | ⟨rfl,_⟩ <;> rcases hlk i' oj hi' with⟨rfl,_⟩ | ⟨rfl,_⟩
  ·rfl
  ·rw[hgm] at hgi;cases hgi;rw[hg5] at hgj;exact((h.own j _ _ hgj).2.2 rfl).elim
  ·rw[hgm] at hgj;cases hgj;rw[hg5] at hgi;exact((h.own j _ _ hgi).2.2 rfl).elim
  ·rfl
 ·rcases hlk id o ho with⟨rfl,_⟩ | ⟨rfl,_⟩
  ·rw[hgm] at hgi;cases hgi;exact⟨h.lt.1,.inr (.inl rfl)⟩
  ·rw[hg5] at hgi;exact⟨(h.own j _ _ hgi).1,.inr (.inr ⟨_,hgi⟩)⟩
theorem RelT.fresh(h:RelT ctx ks e k mid n sl R a w g mb blk es ck)(j:Nat) :
  RelG (ctxT ctx mb blk j w) g ⟨n,sl,[(mid,.mapP ks (valsT R es) none (es.toList.map (·.born)) ck)]⟩ a w:=by
 obtain⟨q,hg⟩:=h.gm;have hlk:∀ id o,look [(mid,Ob.mapP ks (valsT R es) none (es.toList.map (·.born)) ck)] id=some o → id=mid ∧ o=.mapP ks (valsT R es) none (es.toList.map (·.born)) ck:=fun id o ho=>by
  simp only[look] at ho
  split at ho
  ·cases ho;exact⟨by assumption,rfl⟩
  ·cases ho
 have hfree:∀ b,Dt ctx mb blk b → Free (ctxT ctx mb blk j w) g [(mid,Ob.mapP ks (valsT R es) none (es.toList.map (·.born)) ck)] b:=fun b hb=>⟨.inl hb,fun id o m ho hgi=>by
  rw[(hlk id o ho).1,hg] at hgi;cases hgi;exact hb.2.1 rfl⟩
 refine⟨h.defers,h.size,fun i p hp=>?_,fun id o ho=>?_,fun i i' oi oj b m m' hi hi' hgi hgj=>?_,fun id o b m ho hgi=>?_,rfl,rfl,rfl,Nat.le_refl _,fun _ _ _=>rfl⟩
 ·exact(h.slots i p hp).keep ⟨Nat.le_refl _,fun _ _ _=>rfl⟩ (fun b hb _=>hfree b hb) (fun _ _=>rfl)
 ·obtain⟨rfl,rfl⟩:=hlk id o ho;refine .mapP ks _ _ _ ck mb q es hg h.hh (by rw[valsT_len h.sz,h.sz]) rfl h.below h.nodup (fun i ns' u hi=>?_) fun j' p hjp=>by cases hjp
  obtain⟨l',x',r1,r2,r3⟩:=valsT_get hi;obtain⟨x2,s1,s2,s3,s4⟩:=h.ent i ns' l' r1;rw[r2] at s1;cases s1;refine⟨x',r2,s2,s3,?_,fun _=>r3⟩
  cases hb:blk i with
  | none=>rw[hb] at s4;rw[s4.2];rfl
  | some bc=>obtain⟨b,c⟩:=bc;rw[hb] at s4;rw[s4.1];rfl
 ·rw[(hlk i oi hi).1,(hlk i' oj hi').1]
 ·rw[(hlk id o ho).1,hg] at hgi;cases hgi;exact⟨h.lt.1,.inr (.inl rfl)⟩
theorem RelT.back(h:RelT ctx ks e k mid n sl R a w g mb blk es ck){j q:Nat}{ns:List Int}{l:List (List DV)}{R':RowsM}{vm:List (List Int×Value)}{sl':List (Nat×PV)}{a':Act}{w':World}{g':Ghost}{bs':List Nat}{ck':Nat}(hq:mid≠q)(hle:R.length ≤ R'.length)
  (hvl:vm.length=R'.length) (hj:R'[j]?=some (ns,l)) (hjv:∃ u,vm[j]?=some (ns,u)) (hvm:∀ i ns' l',i≠j → R'[i]?=some (ns',l') → R[i]?=some (ns',l') ∧ ∃ x,es[i]?=some x ∧ vm[i]?=some (ns',x.val)) (hpl:PlainL l)
  (hr:RelG (ctxT ctx mb blk j w) g' ⟨n,sl',[(mid,.mapP ks vm (some (j,.row q l.length)) bs' ck'),(q,.row e k l)]⟩ a' w') :
  ∃ mb' blk' es',RelT ctx ks e k mid n sl' R' a' w' g' mb' blk' es' ck':=by
 have hlm:look [(mid,Ob.mapP ks vm (some (j,.row q l.length)) bs' ck'),(q,Ob.row e k l)] mid=some (.mapP ks vm (some (j,.row q l.length)) bs' ck'):=by simp[look]
 have hlq:look [(mid,Ob.mapP ks vm (some (j,.row q l.length)) bs' ck'),(q,Ob.row e k l)] q=some (.row e k l):=by simp[look,Ne.symm hq]
 cases hr.objs mid _ hlm with
 | mapP _ _ _ _ _ mb' n' es' hgm hh hsz hst hbl hnd hent hov=>
  subst hst;have hgr:w.heap.size ≤ w'.heap.size:=hr.grows;have hbase:ctx.w0.heap.size ≤ w.heap.size:=h.grows;have hown:∀ id o b m,look [(mid,Ob.mapP ks vm (some (j,.row q l.length)) (es'.toList.map (·.born)) ck'),(q,Ob.row e k l)] id=some o → g' id=some (b,m) → b < w'.heap.size ∧ (w.heap.size ≤ b ∨ b=mb ∨ ∃ c,blk j=some (b,c)):=fun id o b m ho hg=>hr.own id o b m ho hg
  have hnew:∀ b,(w.heap.size ≤ b ∨ b=mb ∨ ∃ c,blk j=some (b,c)) → ctx.w0.heap.size ≤ b ∨ ctx.K b:=fun b hb=>by
   rcases hb with hb | hb | ⟨c,hb⟩
   ·exact .inl (by omega)
   ·subst hb;exact h.lt.2
   ·exact(h.own j b c hb).2.1
  have hkeep:∀ i b c,i≠j → blk i=some (b,c) → w'.heap[b]?=w.heap[b]?:=fun i b c hij hb=>hr.keep b (h.own i b c hb).1 fun hk=>by
   rcases hk with hk | ⟨c',hk⟩
   ·exact(h.own i b c hb).2.2 hk
   ·exact hij (h.inj i j b c c' hb hk)
  have hdiff:∀ i b c,i≠j → blk i=some (b,c) → ¬ (w.heap.size ≤ b ∨ b=mb ∨ ∃ c,blk j=some (b,c)):=fun i b c hij hb hk=>by
   rcases hk with hk | hk | ⟨c',hk⟩
   ·have:=(h.own i b c hb).1;omega
   ·exact(h.own i b c hb).2.2 hk
   ·exact hij (h.inj i j b c c' hb hk)
  refine⟨mb',fun i=>if i=j then g' q else blk i,es',hr.defers,hr.size,fun i p hp=>?_,⟨n',hgm⟩,⟨(hown mid _ mb' n' hlm hgm).1,hnew mb' (hown mid _ mb' n' hlm hgm).2⟩,hh,by rw[hsz,hvl],hbl,hnd,fun i ns' l' hi=>?_,fun i i' b c c' hi hi'=>?_,fun i b c hi=>?_,fun i hi=>?_,?_,?_,?_,by omega,fun z hz hzK=>?_⟩
  ·refine(hr.slots i p hp).keep ⟨Nat.le_refl _,fun _ _ _=>rfl⟩ (fun b hb _=>⟨?_,fun eb=>?_,fun i' c hc=>?_⟩) (fun _ _=>rfl)
   ·rcases hb.1 with h1 | h1
    ·exact h1.1
    ·have h1':w.heap.size ≤ b:=h1;exact .inr (by omega)
   ·subst eb;exact hb.2 mid _ n' hlm hgm
   ·simp only at hc
    split at hc
    ·exact hb.2 q _ c hlq hc
    ·rcases hb.1 with h1 | h1
     ·exact h1.2.2 i' c hc
     ·have h1':w.heap.size ≤ b:=h1;have:=(h.own i' b c hc).1;omega
  ·by_cases hij:i=j
   ·subst hij;rw[hj] at hi
    cases hi
    obtain⟨u,hu⟩:=hjv;obtain⟨x,r1,r2,r3,_,_⟩:=hent i _ u hu;obtain⟨x',s1,s2⟩:=hov i _ rfl;rw[r1] at s1
    cases s1
    refine⟨x,r1,r2,r3,?_⟩;simp only[if_true];have h2:=rd_row s2
    generalize hL:l.length=L at h2
    cases hr.objs q _ hlq with
    | rowNil _ _ hgq=>
     rw[hgq];rcases h2 with⟨b,c,hgi,_⟩ | ⟨_,_,hv⟩
     ·rw[hgq] at hgi;cases hgi
     ·exact⟨rfl,hv⟩
    | row _ _ _ b c cur hgq hc hlc hcap hcl hkk hrr=>
     rw[hgq];rcases h2 with⟨b',c',hgi,hv⟩ | ⟨hgi,_,_⟩
     ·rw[hgq] at hgi
      cases hgi
      subst hL;refine⟨hv,cur,hc,hlc,hcap,hcl,hkk,fun i' cs j' y hi' hy=>?_⟩;obtain⟨u',hu',hd⟩:=hrr i' cs j' y hi' hy;obtain⟨u2,rfl⟩:=hpl cs (List.mem_of_getElem? hi') y (List.mem_of_getElem? hy)
      cases hd with
      | v _ h1=>exact⟨_,hu',rfl,h1⟩
     ·rw[hgq] at hgi;cases hgi
   ·obtain⟨r0,x0,e0,r1⟩:=hvm i ns' l' hij hi;obtain⟨x,s1,s2,s3,s4,s5⟩:=hent i _ _ r1;refine⟨x,s1,s2,s3,?_⟩;have hxv:=s5 fun p hp=>by cases hp;exact hij rfl
    simp only[if_neg hij];obtain⟨x',t1,_,_,t4⟩:=h.ent i ns' l' r0;rw[e0] at t1
    cases t1
    rw[hxv]
    cases hb:blk i with
    | none=>rw[hb] at t4;exact t4
    | some bc=>
     obtain⟨b,c⟩:=bc;rw[hb] at t4;obtain⟨hv,cur,hc,rest⟩:=t4;exact⟨hv,cur,by rw[hkeep i b c hij hb];exact hc,rest⟩
  ·have hi0:=hi;have hi0':=hi';clear hi hi';have hi:(if i=j then g' q else blk i)=some (b,c):=hi0;have hi':(if i'=j then g' q else blk i')=some (b,c'):=hi0'
   by_cases h1:i=j <;> by_cases h2:i'=j
   ·rw[h1,h2]
   ·rw[if_pos h1] at hi;rw[if_neg h2] at hi';exact(hdiff i' b c' h2 hi' (hown q _ b c hlq hi).2).elim
   ·rw[if_neg h1] at hi;rw[if_pos h2] at hi';exact(hdiff i b c h1 hi (hown q _ b c' hlq hi').2).elim
   ·rw[if_neg h1] at hi;rw[if_neg h2] at hi';exact h.inj i i' b c c' hi hi'
  ·replace hi:(if i=j then g' q else blk i)=some (b,c):=hi
   by_cases h1:i=j
   ·rw[if_pos h1] at hi;have:=hown q _ b c hlq hi;exact⟨this.1,hnew b this.2,fun eb=>by subst eb;exact hq (hr.inj mid q _ _ b n' c hlm hlq hgm hi)⟩
   ·rw[if_neg h1] at hi;have:=h.own i b c hi;exact⟨by omega,this.2.1,fun eb=>by subst eb;exact hdiff i b c h1 hi (hown mid _ b n' hlm hgm).2⟩
  ·have hjl:=(List.getElem?_eq_some_iff.1 hj).1;simp only[if_neg (show i≠j by omega)];exact h.out i (by omega)
  ·rw[← h.os];exact hr.os
  ·rw[← h.tape];exact hr.tape
  ·rw[← h.output];exact hr.output
  ·rw[← h.keep z hz hzK];refine hr.keep z (Nat.lt_of_lt_of_le hz hbase) fun hk=>?_
   rcases hk with hk | ⟨c,hk⟩
   ·subst hk;rcases h.lt.2 with h1 | h1
    ·omega
    ·exact hzK h1
   ·rcases(h.own j z c hk).2.1 with h1 | h1
    ·omega
    ·exact hzK h1
theorem RelT.back0(h:RelT ctx ks e k mid n sl R a w g mb blk es ck){j:Nat}(hjn:blk j=none){sl':List (Nat×PV)}{a':Act}{w':World}{g':Ghost}{bs':List Nat}{ck':Nat}
  (hr:RelG (ctxT ctx mb blk j w) g' ⟨n,sl',[(mid,.mapP ks (valsT R es) none bs' ck')]⟩ a' w') :
  ∃ mb' es',RelT ctx ks e k mid n sl' R a' w' g' mb' blk es' ck':=by
 have hlm:look [(mid,Ob.mapP ks (valsT R es) none bs' ck')] mid=some (.mapP ks (valsT R es) none bs' ck'):=by simp[look]
 cases hr.objs mid _ hlm with
 | mapP _ _ _ _ _ mb' n' es' hgm hh hsz hst hbl hnd hent hov=>
  subst hst;have hgr:w.heap.size ≤ w'.heap.size:=hr.grows;have hbase:ctx.w0.heap.size ≤ w.heap.size:=h.grows;have hown:mb' < w'.heap.size ∧ (w.heap.size ≤ mb' ∨ mb'=mb ∨ ∃ c,blk j=some (mb',c)):=hr.own mid _ mb' n' hlm hgm;have hown2:w.heap.size ≤ mb' ∨ mb'=mb:=by
   rcases hown.2 with h1 | h1 | ⟨c,h1⟩
   ·exact .inl h1
   ·exact .inr h1
   ·rw[hjn] at h1;cases h1
  have hkeep:∀ i b c,blk i=some (b,c) → w'.heap[b]?=w.heap[b]?:=fun i b c hb=>hr.keep b (h.own i b c hb).1 fun hk=>by
   rcases hk with hk | ⟨c',hk⟩
   ·exact(h.own i b c hb).2.2 hk
   ·rw[hjn] at hk;cases hk
  refine⟨mb',es',hr.defers,hr.size,fun i p hp=>?_,⟨n',hgm⟩,⟨hown.1,?_⟩,hh,by rw[hsz,valsT_len h.sz],hbl,hnd,fun i ns' l' hi=>?_,h.inj,fun i b c hi=>?_,h.out,?_,?_,?_,by omega,fun z hz hzK=>?_⟩
  ·refine(hr.slots i p hp).keep ⟨Nat.le_refl _,fun _ _ _=>rfl⟩ (fun b hb _=>⟨?_,fun eb=>?_,fun i' c hc=>?_⟩) (fun _ _=>rfl)
   ·rcases hb.1 with h1 | h1
    ·exact h1.1
    ·have h1':w.heap.size ≤ b:=h1;exact .inr (by omega)
   ·subst eb;exact hb.2 mid _ n' hlm hgm
   ·rcases hb.1 with h1 | h1
    ·exact h1.2.2 i' c hc
    ·have h1':w.heap.size ≤ b:=h1;have:=(h.own i' b c hc).1;omega
  ·rcases hown2 with h1 | h1
   ·exact .inl (by omega)
   ·rw[h1];exact h.lt.2
  ·obtain⟨x',t1,t2,t3,t4⟩:=h.ent i ns' l' hi;obtain⟨x,s1,s2,s3,s4,s5⟩:=hent i _ _ (valsT_of hi t1);refine⟨x,s1,s2,s3,?_⟩;rw[s5 fun p hp=>by cases hp]
   cases hb:blk i with
   | none=>rw[hb] at t4;exact t4
   | some bc=>
    obtain⟨b,c⟩:=bc;rw[hb] at t4;obtain⟨hv,cur,hc,rest⟩:=t4;exact⟨hv,cur,by rw[hkeep i b c hb];exact hc,rest⟩
  ·have:=h.own i b c hi;refine⟨by omega,this.2.1,fun eb=>?_⟩;rcases hown2 with h1 | h1
   ·omega
   ·exact this.2.2 (by rw[eb,h1])
  ·rw[← h.os];exact hr.os
  ·rw[← h.tape];exact hr.tape
  ·rw[← h.output];exact hr.output
  ·rw[← h.keep z hz hzK];refine hr.keep z (Nat.lt_of_lt_of_le hz hbase) fun hk=>?_
   rcases hk with hk | ⟨c,hk⟩
   ·subst hk;rcases h.lt.2 with h1 | h1
    ·omega
    ·exact hzK h1
   ·rw[hjn] at hk;cases hk
end
end
section
variable{P:Program}{ctx:Ctx}{ks:List IntKind}{e:TypeId}{k mid n:Nat}{Q:PQ}{s:PState}{c:Code}
inductive RoundT (P:Program) (c:Code) (ks:List IntKind) (e:TypeId) (k mid n:Nat) (sl:List (Nat×PV)) (R:RowsM) (sl':List (Nat×PV)) (R':RowsM):Prop
 | found {j nl nl':Nat} {ns:List Int} {l l':List (List DV)} (hl:nl=l.length) (hl':nl'=l'.length) (hj:R[j]?=some (ns,l)) (hR:R'=R.set j (ns,l'))
   (h:∀ (ctx:Ctx) (vm:List (List Int×Value)) (bs:List Nat) (ck:Nat),vm.map (·.1)=R.map (·.1) → PWc P ctx c (fun x t=>x=.normal ∧ Sub ctx t ⟨n,sl',[(mid,.mapP ks vm (some (j,.row 50 nl')) bs ck),(50,.row e k l')]⟩) ⟨n,sl,[(mid,.mapP ks vm (some (j,.row 50 nl)) bs ck),(50,.row e k l)]⟩)
 | fresh {q nl':Nat} {ns:List Int} {l':List (List DV)} (hl':nl'=l'.length) (hq:mid≠q) (hR:R'=R++[(ns,l')])
   (h:∀ (ctx:Ctx) (vm:List (List Int×Value)) (bs:List Nat) (ck:Nat),vm.map (·.1)=R.map (·.1) → PWc P ctx c (fun x t=>x=.normal ∧ Sub ctx t ⟨n,sl',[(mid,.mapP ks (vm++[(ns,undef)]) (some (vm.length,.row q nl')) (bs++[ck]) (ck+1)),(q,.row e k l')]⟩) ⟨n,sl,[(mid,.mapP ks vm none bs ck)]⟩)
 | skip (hR:R'=R) (h:∀ (ctx:Ctx) (vm:List (List Int×Value)) (bs:List Nat) (ck:Nat),PWc P ctx c (fun x t=>x=.normal ∧ Sub ctx t ⟨n,sl',[(mid,.mapP ks vm none bs ck)]⟩) ⟨n,sl,[(mid,.mapP ks vm none bs ck)]⟩)
theorem RoundT.run{sl sl':List (Nat×PV)}{R R':RowsM}(hr:RoundT P c ks e k mid n sl R sl' R')(hm:mid≠50)(hnm:∀ x∈sl,∀ id,x.2.has id=true → id=mid)(hpl:∀ p∈R',PlainL p.2)
  {a:Act} {w:World} {g:Ghost} {mb:Nat} {blk:Nat → Option (Nat×Nat)} {es:Array MapEntry} {ck:Nat} (h:RelT ctx ks e k mid n sl R a w g mb blk es ck) :
  c.wp P (fun x a' w'=>x=.normal ∧ ∃ g' mb' blk' es' ck',RelT ctx ks e k mid n sl' R' a' w' g' mb' blk' es' ck') a w:=by
 cases hr with
 | @found j nl nl' ns l l' hl hl' hj hR hw=>
  subst hl hl';refine wp_mono (hw (ctxT ctx mb blk j w) (valsT R es) (es.toList.map (·.born)) ck (valsT_fst h.sz) a w ⟨_,h.found hnm hm hj⟩) fun x a' w' ⟨t,⟨hx,hs⟩,ht⟩=>⟨hx,?_⟩
  obtain⟨g',hg'⟩:=hs a' w' ht;subst hR;have hjl:=(List.getElem?_eq_some_iff.1 hj).1;obtain⟨x0,e0,_,_,_⟩:=h.ent j ns l hj;have hj':(R.set j (ns,l'))[j]?=some (ns,l'):=by rw[List.getElem?_set_self hjl]
  obtain⟨mb',blk',es',hT⟩:=h.back (R':=R.set j (ns,l')) (vm:=valsT R es) (q:=50) hm (by simp) (by rw[valsT_len h.sz];simp) hj' ⟨x0.val,valsT_of hj e0⟩ (fun i ns' l2 hij hi=>by
   rw[List.getElem?_set_ne (Ne.symm hij)] at hi;obtain⟨x1,e1,_⟩:=h.ent i ns' l2 hi;exact⟨hi,x1,e1,valsT_of hi e1⟩) (hpl _ (List.mem_of_getElem? hj')) hg'
  exact⟨g',mb',blk',es',_,hT⟩
 | @fresh q nl' ns l' hl' hq hR hw=>
  subst hl';refine wp_mono (hw (ctxT ctx mb blk R.length w) (valsT R es) (es.toList.map (·.born)) ck (valsT_fst h.sz) a w ⟨_,h.fresh R.length⟩) fun x a' w' ⟨t,⟨hx,hs⟩,ht⟩=>⟨hx,?_⟩
  obtain⟨g',hg'⟩:=hs a' w' ht;subst hR;have hj':(R++[(ns,l')])[R.length]?=some (ns,l'):=by simp
  rw[valsT_len h.sz] at hg';obtain⟨mb',blk',es',hT⟩:=h.back (R':=R++[(ns,l')]) (j:=R.length) (vm:=valsT R es++[(ns,undef)]) (q:=q) hq (by simp) (by simp[valsT_len h.sz]) hj' ⟨undef,by rw[List.getElem?_append_right (by rw[valsT_len h.sz];exact Nat.le_refl _)];simp[valsT_len h.sz]⟩ (fun i ns' l2 hij hi=>by
   have hil:i < R.length:=by
    have:=(List.getElem?_eq_some_iff.1 hi).1;simp at this;omega
   rw[List.getElem?_append_left hil] at hi;obtain⟨x1,e1,_⟩:=h.ent i ns' l2 hi;exact⟨hi,x1,e1,by rw[List.getElem?_append_left (by rw[valsT_len h.sz];exact hil)];exact valsT_of hi e1⟩) (hpl _ (List.mem_of_getElem? hj')) hg'
  exact⟨g',mb',blk',es',_,hT⟩
 | skip hR hw=>
  refine wp_mono (hw (ctxT ctx mb blk R.length w) (valsT R es) (es.toList.map (·.born)) ck a w ⟨_,h.fresh R.length⟩) fun x a' w' ⟨t,⟨hx,hs⟩,ht⟩=>⟨hx,?_⟩
  obtain⟨g',hg'⟩:=hs a' w' ht;subst hR;obtain⟨mb',es',hT⟩:=h.back0 (h.out _ (Nat.le_refl _)) hg';exact⟨g',mb',blk,es',_,hT⟩
theorem PWc.loopRows{bid N:Nat}(J:Nat → List (Nat×PV))(R:Nat → RowsM)(Jf:List (Nat×PV))(bs0:List Nat)(ck0:Nat)(hK:∀ b,ctx.K b → ctx.S b)(hm:mid≠50)(hJ:∀ i,∀ x∈J i,∀ id,x.2.has id=true → id=mid)
  (h0:R 0=[]) (hpl:∀ i,∀ p∈R i,PlainL p.2) (hs:Sub ctx s ⟨n,J 0,[(mid,.map ks false [] bs0 ck0)]⟩)
  (round:∀ i,i < N → RoundT P c ks e k mid n (J i) (R i) (J (i+1)) (R (i+1)))
  (mf:Mp) (hmf:rowsM (R N)=mf) (last:∀ (ctx:Ctx) (vm:List (List Int×Value)) (bs:List Nat) (ck:Nat),PWc P ctx c (fun x t=>x=.exit bid ∧ Sub ctx t ⟨n,Jf,[(mid,.mapP ks vm none bs ck)]⟩) ⟨n,J N,[(mid,.mapP ks vm none bs ck)]⟩)
  (hQ:∀ bs ck,Q (.exit bid) ⟨n,Jf,[(mid,.map ks false mf bs ck)]⟩):PWc P ctx (.loop c) Q s:=by
 subst hmf;intro a w hr;refine LoopAt.loop ?_;have key:∀ d i,i+d=N → ∀ a w g mb blk es ck,RelT ctx ks e k mid n (J i) (R i) a w g mb blk es ck → LoopAt P c (lift ctx Q) a w:=by
  intro d
  induction d with
  | zero=>
   intro i hi a w g mb blk es ck h;have:i=N:=by omega
   subst this;refine LoopAt.step (wp_mono (last (ctxT ctx mb blk (R i).length w) (valsT (R i) es) (es.toList.map (·.born)) ck a w ⟨_,h.fresh (R i).length⟩) fun x a' w' ⟨t,⟨hx,hsb⟩,ht⟩=>?_);obtain⟨g',hg'⟩:=hsb a' w' ht;obtain⟨mb',es',hT⟩:=h.back0 (h.out _ (Nat.le_refl _)) hg';subst hx;exact⟨_,hQ _ _,g',hT.done hK⟩
  | succ d ih=>
   intro i hi a w g mb blk es ck h;refine LoopAt.step (wp_mono ((round i (by omega)).run hm (hJ i) (hpl (i+1)) h) fun x a' w' ⟨hx,g',mb',blk',es',ck',hT⟩=>?_);subst hx;exact ih (i+1) (by omega) a' w' g' mb' blk' es' ck' hT
 obtain⟨g,hg⟩:=hs a w hr;obtain⟨mb,es,ck,hT⟩:=RelT.start (e:=e) (k:=k) hg;rw[← h0] at hT;exact key N 0 (by omega) a w g mb _ es ck hT
end
section
variable{κ α:Type}{eK:κ → List Int}{enc:α → List DV}
def rowsOf(eK:κ → List Int)(enc:α → List DV)(m:List (κ×List α)):RowsM:=m.map fun x=>(eK x.1,x.2.map enc)
theorem rowsM_of(m:List (κ×List α)):rowsM (rowsOf eK enc m)=encM eK (eL enc) m:=by simp[rowsM,rowsOf,encM,eL]
theorem rowsOf_plain(h:∀ x,∀ d∈enc x,∃ u,d=DV.v u)(m:List (κ×List α)):∀ p∈rowsOf eK enc m,PlainL p.2:=by
 intro p hp cs hcs d hd;simp only[rowsOf,List.mem_map] at hp;obtain⟨x,_,rfl⟩:=hp;obtain⟨y,_,rfl⟩:=List.mem_map.1 hcs;exact h y d hd
variable[DecidableEq κ]
theorem keysP_fst{vm:List (List Int×Value)}{R:RowsM}(h:vm.map (·.1)=R.map (·.1)):keysP vm=R.map fun x=>(x.1,[]):=by
 have e1:keysP vm=(vm.map (·.1)).map fun k=>(k,[]):=by simp[keysP]
 rw[e1,h];simp
theorem pfind_rows(inj:∀ a b,eK a=eK b → a=b)(q:κ):∀ m:List (κ×List α),
  (∃ j l,pfind (eK q) ((rowsOf eK enc m).map fun x=>(x.1,([]:List DV))) 0=some j ∧ (rowsOf eK enc m)[j]?=some (eK q,l.map enc) ∧ AL.getZ m q []=l ∧ ∀ l',rowsOf eK enc (AL.set m q l')=(rowsOf eK enc m).set j (eK q,l'.map enc)) ∨
  (pfind (eK q) ((rowsOf eK enc m).map fun x=>(x.1,([]:List DV))) 0=none ∧ AL.getZ m q []=[] ∧ ∀ l',rowsOf eK enc (AL.set m q l')=rowsOf eK enc m++[(eK q,l'.map enc)])
 | []=>.inr ⟨rfl,rfl,fun _=>rfl⟩
 | (k,v)::r=>by
  by_cases h:k=q
  ·subst h;refine .inl ⟨0,v,?_,rfl,?_,fun l'=>?_⟩
   ·show(if eK k=eK k then _ else _)=_;rw[if_pos rfl]
   ·simp[AL.getZ,AL.get]
   ·simp[rowsOf,AL.set]
  ·have he:¬ eK k=eK q:=fun e=>h (inj _ _ e)
   have hp:pfind (eK q) ((rowsOf eK enc ((k,v)::r)).map fun x=>(x.1,([]:List DV))) 0=(pfind (eK q) ((rowsOf eK enc r).map fun x=>(x.1,([]:List DV))) 0).map (1+·):=by
    show(if eK k=eK q then _ else _)=_;rw[if_neg he,pfind_shift]
    rfl
   have hg:AL.getZ ((k,v)::r) q []=AL.getZ r q []:=by simp[AL.getZ,AL.get,h]
   rcases pfind_rows inj q r with⟨j,l,h1,h2,h3,h4⟩ | ⟨h1,h2,h3⟩
   ·refine .inl ⟨1+j,l,by rw[hp,h1];rfl,?_,by rw[hg,h3],fun l'=>?_⟩
    ·rw[Nat.add_comm];exact h2
    ·rw[Nat.add_comm];have:=h4 l';simp only[AL.set,h,if_false];show _::rowsOf eK enc (AL.set r q l')=_::_;rw[this];rfl
   ·refine .inr ⟨by rw[hp,h1];rfl,by rw[hg,h2],fun l'=>?_⟩;simp only[AL.set,h,if_false];show _::rowsOf eK enc (AL.set r q l')=_::_;rw[h3 l'];rfl
end
namespace AL
variable{κ α β:Type}[DecidableEq κ]
theorem getZ_setT{ν:Type}(m:List (κ×ν))(k q:κ)(v z:ν):getZ (set m k v) q z=if k=q then v else getZ m q z:=by
 induction m with
 | nil=>by_cases h:k=q <;> simp[getZ,set,get,h]
 | cons x r ih=>
  obtain⟨a,u⟩:=x
  by_cases ha:a=k
  ·subst ha
   by_cases h:a=q <;> simp[getZ,set,get,h]
  ·simp only[set,ha,if_false]
   by_cases h:a=q
   ·subst h;have:¬ k=a:=fun e=>ha e.symm
    simp[getZ,get,this]
   ·have e1:getZ ((a,u)::set r k v) q z=getZ (set r k v) q z:=by simp[getZ,get,h]
    have e2:getZ ((a,u)::r) q z=getZ r q z:=by simp[getZ,get,h]
    rw[e1,e2];exact ih
theorem grow_append(m l l':List (κ×List α)):grow m (l++l')=grow (grow m l) l':=by simp[grow]
theorem grow_take{c:List β}{i:Nat}{p:β}(hp:c[i]?=some p)(f:β → Option (κ×List α)):grow ([]:List (κ×List α)) ((c.take (i+1)).filterMap f)=grow (grow [] ((c.take i).filterMap f)) (f p).toList:=by
 rw[List.take_add_one,hp,List.filterMap_append,grow_append]
 cases h:f p <;> simp[h]
theorem grow_len(q:κ)(l:List (κ×List α)):∀ m:List (κ×List α),(getZ (grow m l) q []).length ≤ (getZ m q []).length+(l.map fun x=>x.2.length).sum:=by
 induction l with
 | nil=>intro m;simp[grow]
 | cons x r ih=>
  intro m;have h1:=ih (set m x.1 (getZ m x.1 []++x.2));rw[getZ_setT] at h1;show(getZ (grow (set m x.1 (getZ m x.1 []++x.2)) r) q []).length ≤ _;simp only[List.map_cons,List.sum_cons]
  by_cases h:x.1=q
  ·subst h;rw[if_pos rfl,List.length_append] at h1;omega
  ·rw[if_neg h] at h1;omega
theorem grow_bound{c:List β}{i n bs:Nat}{p:β}{x:κ×List α}{f:β → Option (κ×List α)}(hB:growOK bs n (c.filterMap f))(hp:c[i]?=some p)(hf:f p=some x) :
  ((getZ (grow [] ((c.take i).filterMap f)) x.1 []).length+x.2.length)*bs ≤ 140737488355328:=by
 have h1:=grow_len x.1 ((c.take i).filterMap f) [];have h2:c=c.take i++p::c.drop (i+1):=by
  have hlt:=(List.getElem?_eq_some_iff.1 hp).1;have:c[i]=p:=(List.getElem?_eq_some_iff.1 hp).2;rw[← this,← List.drop_eq_getElem_cons hlt,List.take_append_drop]
 have h3:((c.filterMap f).map fun x=>x.2.length).sum=(((c.take i).filterMap f).map fun x=>x.2.length).sum+(x.2.length+(((c.drop (i+1)).filterMap f).map fun x=>x.2.length).sum):=by
  conv=>lhs;rw[h2]
  simp[List.filterMap_append,List.filterMap_cons,hf]
 have h4:(getZ ([]:List (κ×List α)) x.1 []).length=0:=by simp[getZ,get]
 refine Nat.le_trans (Nat.mul_le_mul_right bs ?_) hB.2;omega
end AL
theorem evSame{s s':PState}(h1:s'.n=s.n)(h2:s'.sl=s.sl){y:Operand}{q:PV}(h:s.ev y=some q):s'.ev y=some q:=by
 cases y with
 | tmp t=>show s'.at t=_;unfold PState.at;rw[h1,h2];exact h
 | const v=>cases v <;> exact h
 | func f=>exact h
 | global g=>exact h
theorem evObjs{s:PState}{objs:List (Nat×Ob)}{y:Operand}{q:PV}(h:s.ev y=some q):({ s with objs:=objs }:PState).ev y=some q:=evSame (s:=s) rfl rfl h
theorem fresh_alone{s:PState}{id:Nat}{e k:Nat}{l:List (List DV)}(h:s.fresh id=true):({ s with objs:=putO id (.row e k l) s.objs }:PState).alone id=true:=by
 unfold PState.fresh at h;unfold PState.alone;rw[Bool.and_eq_true] at h ⊢;refine⟨h.1,List.all_eq_true.2 fun x hx=>?_⟩;obtain⟨xk,xo⟩:=x;rcases putO_mem hx with h3 | h3
 ·cases h3;rfl
 ·have:=List.all_eq_true.1 h.2 _ h3;simp only[Bool.and_eq_true] at this;exact this.2
theorem idxU{α:Type}{l:List α}{i:Int}{x y:α}(h1:0 ≤ i ∧ l[i.toNat]?=some x)(h2:0 ≤ i ∧ l[i.toNat]?=some y):x=y:=by have:=h1.2.symm.trans h2.2;cases this;rfl
theorem wrapNat{i:Nat}(h:i < 9223372036854775807):IntKind.i64.wrap ((i:Int)+1)=((i+1:Nat):Int):=by rw[wrap_i64 (by omega) (by omega)];rfl
end Go.Ep
namespace Go.Ep
open Go.RowKit
section
variable{P:Program}{ctx:Ctx}{Q:PQ}{s:PState}
variable{dst:Option Tmp}{ty:TypeId}{pos:String}{after:Array Edge}{gd:Option (Nat×Bool)}
theorem LR.strIdx{x i:Operand}{t:TypeId}{b:ByteArray}{k:IntKind}{n y:Int}(hu:P.underlying t=some .string)(hx:s.ev x=some (.d (.v (.string b))))(hi:s.ev i=some (.d (.v (.int k n))))(hy:0 ≤ n ∧ (bytesL b)[n.toNat]?=some y) :
  Local P ctx ⟨dst,.index t x i,ty,pos,after,gd⟩ s (s.putD dst (.d (.v (.int .u8 y)))):=
 local_pure (o:=⟨dst,.index t x i,ty,pos,after,gd⟩) fun a w g hg=>by
  obtain⟨h0,h1⟩:=hy;have hlt:n.toNat < b.size:=by
   have:=(List.getElem?_eq_some_iff.1 h1).1;simpa[bytesL] using this
  have hb:0 ≤ n ∧ n < b.size:=⟨h0,by omega⟩
  have hv:((b[n.toNat]'hlt).toNat:Int)=y:=by
   have:=(List.getElem?_eq_some_iff.1 h1).2;simp only[bytesL,List.getElem_map,Array.getElem_toList] at this;exact this
  refine⟨.int .u8 y,?_,.d (.v _ rfl)⟩;simp only[execOp,ev_v hg hx,ev_v hg hi,Sem.run_bind,run_index_string w t b k n hu,dif_pos hb,hv,Result.andThen_ok,Sem.run_pure]
end
end Go.Ep
namespace Go.Ep
open Go.RowKit
section
variable{P:Program}{ctx:Ctx}{s:PState}
variable{dst:Option Tmp}{ty:TypeId}{pos:String}{after:Array Edge}{gd:Option (Nat×Bool)}
end
end Go.Ep
namespace Go.Ep
open Go Go.RowKit
section
variable{P:Program}{ctx:Ctx}{Q:PQ}{s:PState}
variable{dst:Option Tmp}{ty:TypeId}{pos:String}{after:Array Edge}{gd:Option (Nat×Bool)}
theorem LR.pieceRow{x lo:Operand}{id n k:Nat}{t e:TypeId}{kx:IntKind}{i:Int}{l:List (List DV)}(hu:P.underlying t=some (.slice e))(hs:∀ w,(sizeOf e).run P w=.ok k w)
  (hx:s.ev x=some (.row id n)) (hl:look s.objs id=some (.row e k l)) (hn:n ≤ l.length) (hlo:s.ev lo=some (.d (.v (.int kx i)))) (hi:(0:Int) ≤ i ∧ i ≤ (n:Int)) :
  Local P ctx ⟨dst,.slice t x (some lo) none none,ty,pos,after,gd⟩ s (s.putD dst (.pc id i.toNat (n - i.toNat) k)):=
 local_pure (o:=⟨dst,.slice t x (some lo) none none,ty,pos,after,gd⟩) fun a w g hg=>by
  have h:=hg.ev hx;have hob:=hg.objs id _ hl;have hit:i=(i.toNat:Int):=by omega
  have hle:i.toNat ≤ n:=by omega
  generalize hv:a.eval x=v at h
  cases h with
  | row _ _ blk cap hgi=>
   cases hob with
   | rowNil _ _ hgn=>rw[hgn] at hgi;cases hgi
   | row _ _ _ blk' cap' cur h' hh hlc hcap hcs hkk hr=>
    rw[hgi] at h'
    cases h'
    refine⟨.slice (if cap=i.toNat then some ⟨blk,0,none⟩ else some ⟨blk,0+i.toNat*k,none⟩) (n - i.toNat) (cap - i.toNat),?_,?_⟩
    ·by_cases hc:cap=i.toNat <;>
     simp[execOp,hv,ev_int hg hlo,Instr.sliceAt,Instr.slice,Instr.sliceBounds,run_underlying hu,hs,run_sliceBound' (P:=P) hit hle,Addr.add_lit,Result.andThen,hc]
    ·by_cases h0:n - i.toNat=0
     ·rw[h0];exact .pc0 _ _ _ _ _
     ·rw[if_neg (by omega),Nat.zero_add];exact .pc id _ _ k blk cap hgi (by omega)
  | rowNil _ hgn=>
   have h0:i.toNat=0:=by omega
   refine⟨.slice none 0 0,?_,?_⟩
   ·rw[h0] at hit;simp[execOp,hv,ev_int hg hlo,Instr.sliceAt,Instr.slice,Instr.sliceBounds,run_underlying hu,hs,run_sliceBound' (P:=P) hit (show 0 ≤ 0 from Nat.le_refl _),Result.andThen]
   ·rw[Nat.zero_sub];exact .pc0 _ _ _ _ _
theorem LR.lenPc{x:Operand}{id i n k:Nat}{t e:TypeId}(hu:P.underlying t=some (.slice e))(hx:s.ev x=some (.pc id i n k)) :
  Local P ctx ⟨dst,.call ⟨.builtin .len,#[x],#[t]⟩,ty,pos,after,gd⟩ s (s.putD dst (.d (.v (.int .i64 n)))):=
 local_pure (o:=⟨dst,.call ⟨.builtin .len,#[x],#[t]⟩,ty,pos,after,gd⟩) fun a w g hg=>by
  have h:=hg.ev hx;have hE:P.underlying t=some (.slice (P.elem t)):=by simp[Program.elem,hu]
  refine⟨.int .i64 n,?_,.d (.v _ rfl)⟩
  generalize hv:a.eval x=v at h
  cases h <;> simp[execOp,resolve,invoke,builtin,hv,run_len_slice,hE,Result.andThen,goInt]
theorem LR.idxPc{x ix:Operand}{id i m:Nat}{ki:IntKind}{j:Int}{k:Nat}{t e:TypeId}(hu:P.underlying t=some (.slice e))(hs:∀ w,(sizeOf e).run P w=.ok k w)
  (hx:s.ev x=some (.pc id i m k)) (hix:s.ev ix=some (.d (.v (.int ki j)))) (hj:(0:Int) ≤ j ∧ j < (m:Int)) :
  Local P ctx ⟨dst,.indexAddr t x ix,ty,pos,after,gd⟩ s (s.putD dst (.rp id (i+j.toNat) 0 k)):=
 local_pure (o:=⟨dst,.indexAddr t x ix,ty,pos,after,gd⟩) fun a w g hg=>by
  have h:=hg.ev hx
  generalize hv:a.eval x=v at h
  cases h with
  | pc _ _ _ _ blk cap hgi hi=>
   refine⟨.pointer (some ⟨blk,(i+j.toNat)*k+0,none⟩),?_,.rp id _ 0 k blk cap hgi⟩;have:=run_indexAt (P:=P) hu hs blk (i*k) m (cap - i) ki j j.toNat (by omega) (by omega) w;rw[show i*k+j.toNat*k=(i+j.toNat)*k+0 by rw[Nat.add_mul,Nat.add_zero]] at this;simp[execOp,hv,ev_int hg hix,this,Result.andThen]
  | pc0=>omega
theorem LR.clearPc{x:Operand}{id i n k:Nat}{t e:TypeId}{l:List (List DV)}{z:Value}{zs:List Value}(hu:P.underlying t=some (.slice e))(hx:s.ev x=some (.pc id i n k))(hl:look s.objs id=some (.row e k l))
  (hz:∀ w,(zeroValue e).run P w=.ok z w) (hzs:z.cells=zs.toArray) (h1:(zs.all Value.oneCell')=true) (hk:zs.length=k) (hin:i+n ≤ l.length) (hd:dst=none) :
  Local P ctx ⟨dst,.call ⟨.builtin .clear,#[x],#[t]⟩,ty,pos,after,gd⟩ s (s.setO id (.row e k (l.take i++List.replicate n (zs.map zdv)++l.drop (i+n)))):=by
 subst hd;refine local_value (o:=⟨none,.call ⟨.builtin .clear,#[x],#[t]⟩,ty,pos,after,gd⟩) fun a w g hg=>?_
 have h:=hg.ev hx;have hob:=hg.objs id _ hl;have hE:P.underlying t=some (.slice e):=hu
 generalize hv:a.eval x=v at h
 have hnil:n=0 → ∀ g',Rel ctx (s.setO id (.row e k (l.take i++List.replicate n (zs.map zdv)++l.drop (i+n)))) a w ∨ g'=g:=by
  intro h0;subst h0;intro g'
  left
  simp only[List.replicate_zero,List.append_nil,Nat.add_zero,List.take_append_drop];refine⟨g,?_⟩;have hlk:∀ j o,look (s.setO id (.row e k l)).objs j=some o↔look s.objs j=some o:=by
   intro j o;simp only[PState.setO];rw[look_putO]
   by_cases hj:j=id
   ·subst hj;rw[if_pos rfl,hl]
   ·rw[if_neg hj]
  have hF:∀ b,Free ctx g s.objs b → Free ctx g (s.setO id (.row e k l)).objs b:=fun b ⟨h1,h2⟩=>⟨h1,fun j o m hj=>h2 j o m ((hlk j o).1 hj)⟩
  have hst:Stays w w (Free ctx g s.objs):=⟨Nat.le_refl _,fun _ _ _=>rfl⟩
  exact⟨hg.defers,hg.size,fun q p hp=>(hg.slots q p hp).keep hst (fun b hb _=>hF b hb) (fun _ _=>rfl),fun j o hj=>(hg.objs j o ((hlk j o).1 hj)).keep hst (fun b hb _=>hF b hb) (fun _ _ _=>rfl) rfl (fun _ _=>rfl),
   fun p q op oq b n m hp hq=>hg.inj p q op oq b n m ((hlk p op).1 hp) ((hlk q oq).1 hq),fun j o b n hj=>hg.own j o b n ((hlk j o).1 hj),hg.os,hg.tape,hg.output,hg.grows,hg.keep⟩
 cases h with
 | pc0 _ _ _ ao c=>
  rcases hnil rfl (fun _=>none) with hr | hr
  ·refine⟨.tuple #[],w,?_,hr⟩
   cases ao <;> simp[execOp,resolve,invoke,builtin,hv,Builtin.clear_,run_underlying hE,Result.andThen]
  ·rcases hnil rfl (fun _=>some (0,0)) with hr2 | hr2
   ·refine⟨.tuple #[],w,?_,hr2⟩
    cases ao <;> simp[execOp,resolve,invoke,builtin,hv,Builtin.clear_,run_underlying hE,Result.andThen]
   ·have:=congrFun (hr.trans hr2.symm) 0;cases this
 | pc _ _ _ _ blk cap hgi hi=>
  by_cases hn0:n=0
  ·have hr:Rel ctx (s.setO id (.row e k (l.take i++List.replicate n (zs.map zdv)++l.drop (i+n)))) a w:=by
    rcases hnil hn0 (fun _=>none) with hr | hr
    ·exact hr
    ·have:=congrFun hr id;rw[hgi] at this;cases this
   subst hn0;refine⟨.tuple #[],w,?_,hr⟩;simp[execOp,resolve,invoke,builtin,hv,Builtin.clear_,run_underlying hE,Result.andThen]
  cases hob with
  | rowNil _ _ hgn=>rw[hgn] at hgi;cases hgi
  | row _ _ _ blk' cap' cur h' hh hlc hcap hcs hkk hr=>
   rw[hgi] at h'
   cases h'
   have hlen:((Builtin.zeroCells z.cells n).toList).length=n*k:=by rw[zc_len,hzs];simp[hk]
   have hroom:i*k+n*k ≤ cur.length:=by
    rw[hcs,← Nat.add_mul];exact Nat.mul_le_mul_right k hi
   have hz1:∀ u∈(Builtin.zeroCells z.cells n).toList,u.oneCell'=true:=by
    intro u hu;obtain⟨j,hj⟩:=List.getElem?_of_mem hu;have hjl:=(List.getElem?_eq_some_iff.1 hj).1;rw[hlen] at hjl;have hk0:0 < k:=by
     rcases Nat.eq_zero_or_pos k with h | h
     ·subst h;omega
     ·exact h
    rw[hzs] at hj;simp[Builtin.zeroCells,hk,hjl] at hj;have ht:j % k < zs.length:=by rw[hk];exact Nat.mod_lt _ hk0
    rw[List.getElem?_eq_getElem ht] at hj;simp at hj;subst hj;simp at h1;exact h1 _ (List.getElem_mem ht)
   have hrun:=run_storeCells_at P blk (i*k) e (Builtin.zeroCells z.cells n).toList 0 cur.toArray w hh (by simpa[hlen] using hroom) hz1
   let new:List Value:=cur.take (i*k)++(Builtin.zeroCells z.cells n).toList++cur.drop (i*k+n*k)
   have hrun':(storeCells ⟨blk,i*k,none⟩ (Builtin.zeroCells z.cells n).toList).run P w=.ok () (w.setRow blk new.toArray):=by
    simpa[hlen,new] using hrun
   refine⟨.tuple #[],w.setRow blk new.toArray,?_,g,?_⟩
   ·have hn':∃ n',n=n'+1:=⟨n - 1,by omega⟩
    obtain⟨n',rfl⟩:=hn';simp[execOp,resolve,invoke,builtin,hv,Builtin.clear_,run_underlying hE,hz,hrun',Result.andThen]
   ·have hown:=hg.own id _ blk cap hl hgi;have hother:∀ k,k < w.heap.size → k≠blk → (w.setRow blk new.toArray).heap[k]?=w.heap[k]?:=fun k _ hne=>setRow_other w blk k _ hne
    have hst:Stays w (w.setRow blk new.toArray) (Free ctx g s.objs):=⟨by simp,fun b ⟨_,h2⟩ hlt=>hother b hlt fun e=>by subst e;exact h2 id _ cap hl hgi⟩
    refine hg.wrote hl hgi rfl rfl rfl (by simp) hother hown.2 ?_;have hll:(l.take i++List.replicate n (zs.map zdv)++l.drop (i+n)).length=l.length:=by simp;omega
    have hget:∀ t,new[t]?=if t < i*k then cur[t]? else if t < i*k+n*k then (Builtin.zeroCells z.cells n).toList[t - i*k]? else cur[t]?:=by
     intro t;show(cur.take (i*k)++(Builtin.zeroCells z.cells n).toList++cur.drop (i*k+n*k))[t]?=_;rw[List.append_assoc,List.getElem?_append];have l1:(cur.take (i*k)).length=i*k:=by simp;omega
     rw[l1]
     by_cases h3:t < i*k
     ·rw[if_pos h3,if_pos h3];simp[h3]
     ·rw[if_neg h3,if_neg h3,List.getElem?_append,hlen]
      by_cases h4:t - i*k < n*k
      ·rw[if_pos h4,if_pos (by omega)]
      ·rw[if_neg h4,if_neg (by omega),List.getElem?_drop]
       congr 1;omega
    have hlget:∀ q,(l.take i++List.replicate n (zs.map zdv)++l.drop (i+n))[q]?=if q < i then l[q]? else if q < i+n then some (zs.map zdv) else l[q]?:=by
     intro q;rw[List.append_assoc,List.getElem?_append];have l1:(l.take i).length=i:=by simp;omega
     rw[l1]
     by_cases h3:q < i
     ·rw[if_pos h3,if_pos h3];simp[h3]
     ·rw[if_neg h3,if_neg h3,List.getElem?_append];simp only[List.length_replicate]
      by_cases h4:q - i < n
      ·rw[if_pos h4,if_pos (by omega),List.getElem?_replicate,if_pos h4]
      ·rw[if_neg h4,if_neg (by omega),List.getElem?_drop]
       congr 1;omega
    refine .row e k _ blk cap new hgi (heap_setRow_same hh) (by rw[hll];exact hlc) hcap (by show(cur.take (i*k)++(Builtin.zeroCells z.cells n).toList++cur.drop (i*k+n*k)).length=_;rw[List.length_append,List.length_append,hlen,List.length_take,List.length_drop,Nat.min_eq_left (by omega),← hcs];omega) (fun q cs hq=>?_) (fun q cs t x hq hx=>?_)
    ·rw[hlget] at hq
     split at hq
     ·exact hkk q cs hq
     ·split at hq
      ·simp only[Option.some.injEq] at hq;subst hq;simpa using hk
      ·exact hkk q cs hq
    ·have hcsk:cs.length=k:=by
      rw[hlget] at hq
      split at hq
      ·exact hkk q cs hq
      ·split at hq
       ·simp only[Option.some.injEq] at hq;subst hq;simpa using hk
       ·exact hkk q cs hq
     have htk:t < k:=by rw[← hcsk];exact(List.getElem?_eq_some_iff.1 hx).1
     rw[hlget] at hq;rw[hget]
     by_cases h3:q < i
     ·rw[if_pos h3] at hq;have:q*k+t < i*k:=by
       have:=Nat.mul_le_mul_right k (show q+1 ≤ i by omega);rw[Nat.add_mul,Nat.one_mul] at this;omega
      rw[if_pos this];obtain⟨u,h5,h6⟩:=hr q cs t x hq hx;exact⟨u,h5,h6.keep hst (fun b hb _=>free_put hl b hb)⟩
     ·rw[if_neg h3] at hq;have h3':¬ q*k+t < i*k:=by
       have:=Nat.mul_le_mul_right k (show i ≤ q by omega);omega
      rw[if_neg h3']
      by_cases h4:q < i+n
      ·rw[if_pos h4] at hq;have:q*k+t < i*k+n*k:=by
        have:=Nat.mul_le_mul_right k (show q+1 ≤ i+n by omega);rw[Nat.add_mul,Nat.one_mul,Nat.add_mul] at this;omega
       rw[if_pos this];simp only[Option.some.injEq] at hq;subst hq;have htz:t < zs.length:=by rw[hk];exact htk
       rw[List.getElem?_map,List.getElem?_eq_getElem htz] at hx;simp only[Option.map_some,Option.some.injEq] at hx;subst hx;refine⟨zs[t],?_,zdv_rd _ _ _ (by simp at h1;exact h1 _ (List.getElem_mem htz))⟩;have e1:q*k+t - i*k=(q - i)*k+t:=by rw[Nat.sub_mul];have:=Nat.mul_le_mul_right k (show i ≤ q by omega);omega
       have hlt:(q - i)*k+t < n*k:=by rw[← e1];omega
       have e2:((q - i)*k+t) % k=t:=by rw[Nat.mul_comm,Nat.mul_add_mod,Nat.mod_eq_of_lt htk]
       rw[e1,hzs];simp[Builtin.zeroCells,hlt,hk,e2];rw[List.getElem?_eq_getElem htz];rfl
      ·rw[if_neg h4] at hq;have:¬ q*k+t < i*k+n*k:=by
        have:=Nat.mul_le_mul_right k (show i+n ≤ q by omega);rw[Nat.add_mul] at this;omega
       rw[if_neg this];obtain⟨u,h5,h6⟩:=hr q cs t x hq hx;exact⟨u,h5,h6.keep hst (fun b hb _=>free_put hl b hb)⟩
variable{α:Type}{enc:α → List DV}{L:List α}
theorem LR.pieceRowT{x lo:Operand}{id n k:Nat}{t e:TypeId}{kx:IntKind}{i:Int}(hu:P.underlying t=some (.slice e))(hs:∀ w,(sizeOf e).run P w=.ok k w)
  (hx:s.ev x=some (.row id n)) (hm:n=L.length) (hl:look s.objs id=some (.row e k (L.map enc))) (hlo:s.ev lo=some (.d (.v (.int kx i)))) (hi:(0:Int) ≤ i ∧ i ≤ (L.length:Int)) :
  Local P ctx ⟨dst,.slice t x (some lo) none none,ty,pos,after,gd⟩ s (s.putD dst (.pc id i.toNat (L.length - i.toNat) k)):=by
 subst hm;exact LR.pieceRow hu hs hx hl (by simp) hlo hi
theorem LR.clearPcT{x:Operand}{id i n k:Nat}{t e:TypeId}{z:α}{zv:Value}{zs:List Value}(hu:P.underlying t=some (.slice e))(hx:s.ev x=some (.pc id i n k))(hl:look s.objs id=some (.row e k (L.map enc)))
  (hz:∀ w,(zeroValue e).run P w=.ok zv w) (hzs:zv.cells=zs.toArray) (h1:(zs.all Value.oneCell')=true) (hk:zs.length=k) (he:zs.map zdv=enc z) (hin:i+n ≤ L.length) (hd:dst=none) :
  Local P ctx ⟨dst,.call ⟨.builtin .clear,#[x],#[t]⟩,ty,pos,after,gd⟩ s (s.setO id (.row e k ((L.take i++List.replicate n z++L.drop (i+n)).map enc))):=by
 have:=LR.clearPc (P:=P) (ctx:=ctx) (dst:=dst) (ty:=ty) (pos:=pos) (after:=after) (gd:=gd) hu hx hl hz hzs h1 hk (by simpa using hin) hd;rw[he,← List.map_take,← List.map_drop,← List.map_replicate,← List.map_append,← List.map_append] at this;exact this
end
end Go.Ep
namespace Go.Proofs
open Go.Ep
set_option maxHeartbeats 1000000
set_option maxRecDepth 100000
set_option linter.unusedVariables false
set_option linter.unusedSimpArgs false
theorem r13_Few_ok(l1:List TEvent)(most2:Int)(r0:Bool)(h:(r13_Few l1 most2).wp (·=r0)):PFun Try.prog 4 [.d (.sl (List.map TEvent.e l1)),.d (.v (.int .i64 most2))] (.d (.v (.bool r0))):=by
 refine fI (sl:=[(0,_),(1,_)]) Try.func4 rfl Try.ntmps4 rfl rfl ?_;intro ctx hK;refine wQ<|wR<|wa ?_;refine wN<|wQ<|wQ<|wR<|wm ?_;refine wS (lM (enc:=TEvent.e) (L:=l1) Try.underlying22 rfl) rfl<|wm ?_;refine wS (LR.gtr rfl rfl) rfl<|wN ?_;refine wC rfl (fun hc3=>?_) (fun hc3=>?_)
 ·replace h:=iT hc3 h;refine wQ<|wR<|wa ?_;refine wN<|wX ?_;replace h:_=r0:=h;subst h;exact⟨.inr rfl,_,.cons (.tmp rfl rfl)<|.nil,rfl⟩
 ·replace h:=iF hc3 h;refine wK<|wQ<|wQ<|wR<|wa ?_;refine wN ?_;refine PWc.jnX (iBind h) (fun(_:Unit) (_:Unit)=>⟨32,[],[]⟩) (fun h=>?_) ?_
  ·refine wB<|wM (fun(i21:Int) (_:Unit)=>⟨32,[(0,.d (.sl (List.map TEvent.e l1))),(5,.d (.v (.int .i64 i21)))],[]⟩) () h (sP) ?_;rintro N i21 _ h;refine wQ<|wQ<|wR<|wm ?_;refine wm ?_;refine wS (lM (enc:=TEvent.e) (L:=l1) Try.underlying22 rfl) rfl<|wS (LR.lss rfl rfl) rfl<|wN ?_;refine wC rfl (fun hc22=>?_) (fun hc22=>?_)
   ·replace h:=iT hc22 h;refine wK<|wQ<|wB<|wQ ?_;refine wJ (iBind h) (fun(v23:Bool) (_:Unit)=>⟨32,[(0,.d (.sl (List.map TEvent.e l1))),(5,.d (.v (.int .i64 i21))),(31,.d (.v (.bool v23)))],[]⟩) (fun h=>?_) ?_
    ·refine wR<|wm ?_;refine wm ?_;replace h:=iIdx h;obtain⟨x24,hy25,h⟩:=h;refine wS (iX (enc:=TEvent.e) (L:=l1) (y:=x24) Try.underlying22 Try.sizeOf37 rfl rfl hy25 (fun _=>rfl)) rfl<|wS (fE Try.underlying37 rfl Try.sizeOf35 (by decide) rfl rfl) rfl<|wS (LR.loadEp Try.isAgg35 rfl rfl) rfl<|wS (lM (enc:=TDot.e) (L:=x24.kills) Try.underlying35 rfl) rfl<|wS (LR.gtr rfl rfl) rfl<|wm ?_;refine wL (d:=23) rfl (fun hg26=>?_) (fun hg26=>?_)
     ·replace h:=iT hg26 h;refine wf<|wf<|wf<|wf<|wf<|wf<|wy (tl:=[(0,_),(5,_),(23,_),(24,_),(25,_),(26,_),(27,_),(28,_),(29,_)]) (to:=[]) ?_;refine wf<|wS (pT rfl rfl) rfl<|wN ?_;exact⟨true,(),h,sP⟩
     ·replace h:=iF hg26 h;refine wT (mV rfl) rfl rfl rfl<|wT (mV rfl) rfl rfl rfl ?_;replace h:=iIdx h;obtain⟨x27,hy28,h⟩:=h;refine wT (iX (enc:=TEvent.e) (L:=l1) (y:=x27) Try.underlying22 Try.sizeOf37 rfl rfl hy28 (fun _=>rfl)) rfl rfl rfl<|wT (fE Try.underlying37 rfl Try.sizeOf9 (by decide) rfl rfl) rfl rfl rfl<|wT (LR.loadEp Try.isAgg9 rfl rfl) rfl rfl rfl<|wT (LR.lenStr Try.underlying9 rfl) rfl rfl rfl<|wy (tl:=[(0,_),(5,_),(23,_),(24,_),(25,_),(26,_),(27,_),(28,_),(29,_)]) (to:=[]) ?_;refine wT (LR.gtr rfl rfl) rfl rfl rfl<|wS (pF rfl rfl) rfl<|wN ?_;exact⟨(decide (200 < (ByteArray.size x27.text:Int))),(),h,sP⟩
    ·rintro v23 _ h;refine wC rfl (fun hc29=>?_) (fun hc29=>?_)
     ·replace h:=iT hc29 h;refine wQ<|wR<|wa ?_;refine wN<|wX ?_;replace h:_=r0:=h;subst h;exact⟨.inr rfl,_,.cons (.tmp rfl rfl)<|.nil,rfl⟩
     ·replace h:=iF hc29 h;refine wK<|wR<|wm ?_;refine wS (LR.addW rfl rfl) rfl<|wa ?_;refine wN ?_;exact⟨(IntKind.i64.wrap (i21+1)),(),h,sP⟩
   ·replace h:=iF hc22 h;refine wZ ?_;exact⟨(),(),h,sP⟩
  ·rintro _ _ h;refine wQ<|wR<|wa ?_;refine wN<|wX ?_;replace h:_=r0:=h;subst h;exact⟨.inr rfl,_,.cons (.tmp rfl rfl)<|.nil,rfl⟩
theorem r09_Few_ok(c1:List TPart)(r0:Bool)(h:(r09_Few c1).wp (·=r0)):PFun Try.prog 5 [.d (.sl (List.map TPart.e c1))] (.d (.v (.bool r0))):=by
 refine fI (sl:=[(0,_)]) Try.func5 rfl Try.ntmps5 rfl rfl ?_;intro ctx hK;refine wQ<|wR<|wa ?_;refine wN<|wQ<|wQ<|wR<|wm ?_;refine wS (lM (enc:=TPart.e) (L:=c1) Try.underlying25 rfl) rfl<|wS (LR.gtr rfl rfl) rfl<|wN ?_;refine wC rfl (fun hc2=>?_) (fun hc2=>?_)
 ·replace h:=iT hc2 h;refine wQ<|wR<|wa ?_;refine wN<|wX ?_;replace h:_=r0:=h;subst h;exact⟨.inr rfl,_,.cons (.tmp rfl rfl)<|.nil,rfl⟩
 ·replace h:=iF hc2 h;refine wK<|wQ<|wQ<|wR<|wa ?_;refine wN ?_;refine PWc.jnX (iBind h) (fun(_:Unit) (_:Unit)=>⟨20,[],[]⟩) (fun h=>?_) ?_
  ·refine wB<|wM (fun(i12:Int) (_:Unit)=>⟨20,[(0,.d (.sl (List.map TPart.e c1))),(3,.d (.v (.int .i64 i12)))],[]⟩) () h (sP) ?_;rintro N i12 _ h;refine wQ<|wQ<|wR<|wm ?_;refine wm ?_;refine wS (lM (enc:=TPart.e) (L:=c1) Try.underlying25 rfl) rfl<|wS (LR.lss rfl rfl) rfl<|wN ?_;refine wC rfl (fun hc13=>?_) (fun hc13=>?_)
   ·replace h:=iT hc13 h;refine wK<|wQ<|wB<|wQ<|wR<|wm ?_;refine wm ?_;replace h:=iIdx h;obtain⟨x14,hy15,h⟩:=h;refine wS (iX (enc:=TPart.e) (L:=c1) (y:=x14) Try.underlying25 Try.sizeOf43 rfl rfl hy15 (fun _=>rfl)) rfl<|wS (fE Try.underlying43 rfl Try.sizeOf28 (by decide) rfl rfl) rfl<|wS (LR.loadEp Try.isAgg28 rfl rfl) rfl<|wS (lM (enc:=TRun.e) (L:=x14.runs) Try.underlying28 rfl) rfl<|wS (LR.gtr rfl rfl) rfl<|wN ?_;refine wC rfl (fun hc16=>?_) (fun hc16=>?_)
    ·replace h:=iT hc16 h;refine wQ<|wR<|wa ?_;refine wN<|wX ?_;replace h:_=r0:=h;subst h;exact⟨.inr rfl,_,.cons (.tmp rfl rfl)<|.nil,rfl⟩
    ·replace h:=iF hc16 h;refine wK<|wR<|wm ?_;refine wS (LR.addW rfl rfl) rfl<|wa ?_;refine wN ?_;exact⟨(IntKind.i64.wrap (i12+1)),(),h,sP⟩
   ·replace h:=iF hc13 h;refine wZ ?_;exact⟨(),(),h,sP⟩
  ·rintro _ _ h;refine wQ<|wR<|wa ?_;refine wN<|wX ?_;replace h:_=r0:=h;subst h;exact⟨.inr rfl,_,.cons (.tmp rfl rfl)<|.nil,rfl⟩
theorem r06_may_ok(x1:TRun)(r0:Bool)(h:(r06_may x1).wp (·=r0)):PFun Try.prog 32 [.agg (List.map .d (TRun.e x1))] (.d (.v (.bool r0))):=by
 refine fI (sl:=[(0,_)]) Try.func32 rfl Try.ntmps32 rfl rfl ?_;intro ctx hK;refine wQ<|wR<|wS (LR.box rfl rfl rfl rfl) rfl<|wa ?_;refine wN<|wQ ?_;refine wJ (iBind h) (fun(v2:Bool) (_:Unit)=>⟨18,[(2,.d (.v (.bool v2)))],[]⟩) (fun h=>?_) ?_
 ·refine wR<|wS (fR Try.underlying66 rfl Try.sizeOf32 (by decide) rfl rfl) rfl<|wS (lD Try.isAgg32 rfl rfl rfl) rfl<|wS (LR.geq rfl rfl) rfl<|wm ?_;refine wL (d:=6) rfl (fun hg3=>?_) (fun hg3=>?_)
  ·replace h:=iT hg3 h;refine wT (fR Try.underlying66 rfl Try.sizeOf32 (by decide) rfl rfl) rfl rfl rfl<|wT (lD Try.isAgg32 rfl rfl rfl) rfl rfl rfl<|wT (fR Try.underlying66 rfl Try.sizeOf32 (by decide) rfl rfl) rfl rfl rfl<|wT (lD Try.isAgg32 rfl rfl rfl) rfl rfl rfl<|wT (LR.leq rfl rfl) rfl rfl rfl<|wS (pT rfl rfl) rfl<|wm ?_;refine wL (d:=13) rfl (fun hg4=>?_) (fun hg4=>?_)
   ·replace h:=iT hg4 h;refine wT (fR Try.underlying66 rfl Try.sizeOf32 (by decide) rfl rfl) rfl rfl rfl<|wT (lD Try.isAgg32 rfl rfl rfl) rfl rfl rfl<|wT (LR.leq rfl rfl) rfl rfl rfl<|wS (pT rfl rfl) rfl<|wa ?_;refine wN ?_;exact⟨(decide (x1.hi ≤ 281474976710655)),(),h,sP⟩
   ·replace h:=iF hg4 h;refine wf<|wf<|wf<|wS (pF rfl rfl) rfl<|wa ?_;refine wN ?_;exact⟨false,(),h,sP⟩
  ·replace h:=iF hg3 h;refine wf<|wf<|wf<|wf<|wf<|wS (pF rfl rfl) rfl<|wm ?_;refine wf<|wf<|wf<|wS (pF rfl rfl) rfl<|wa ?_;refine wN ?_;exact⟨false,(),h,sP⟩
 ·rintro v2 _ h;refine wX ?_;replace h:_=r0:=h;subst h;exact⟨.inr rfl,_,.cons (.tmp rfl rfl)<|.nil,rfl⟩
theorem r06_Has_ok(l1:List TRun)(n2:Int)(r0:Bool)(h:(r06_Has l1 n2).wp (·=r0)):PFun Try.prog 24 [.d (.sl (List.map TRun.e l1)),.d (.v (.int .u64 n2))] (.d (.v (.bool r0))):=by
 refine fI (sl:=[(0,_),(1,_)]) Try.func24 rfl Try.ntmps24 rfl rfl ?_;intro ctx hK;refine wQ<|wR<|wa ?_;refine wN<|wQ<|wQ<|wR<|wa ?_;refine wN ?_;refine PWc.jnX (iBind h) (fun(_:Unit) (_:Unit)=>⟨35,[],[]⟩) (fun h=>?_) ?_
 ·refine wB<|wM (fun(i30:Int) (_:Unit)=>⟨35,[(0,.d (.sl (List.map TRun.e l1))),(1,.d (.v (.int .u64 n2))),(5,.d (.v (.int .i64 i30)))],[]⟩) () h (sP) ?_;rintro N i30 _ h;refine wQ<|wQ<|wR<|wm ?_;refine wm ?_;refine wS (lM (enc:=TRun.e) (L:=l1) Try.underlying28 rfl) rfl<|wS (LR.lss rfl rfl) rfl<|wN ?_;refine wC rfl (fun hc31=>?_) (fun hc31=>?_)
  ·replace h:=iT hc31 h;refine wK<|wQ<|wB<|wQ ?_;refine wJ (iBind h) (fun(v32:Bool) (_:Unit)=>⟨35,[(0,.d (.sl (List.map TRun.e l1))),(1,.d (.v (.int .u64 n2))),(5,.d (.v (.int .i64 i30))),(34,.d (.v (.bool v32)))],[]⟩) (fun h=>?_) ?_
   ·refine wR<|wm ?_;refine wm ?_;replace h:=iIdx h;obtain⟨x33,hy34,h⟩:=h;refine wS (iX (enc:=TRun.e) (L:=l1) (y:=x33) Try.underlying28 Try.sizeOf66 rfl rfl hy34 (fun _=>rfl)) rfl<|wS (lE (ys:=[_,_]) Try.isAgg66 Try.sizeOf66 rfl rfl rfl) rfl ?_;replace h:=iDet h;obtain⟨v35,hy36,h⟩:=h;refine wS (cN (r06_may_ok x33 v35 hy36) rfl Try.call32 rfl rfl rfl rfl) rfl<|wm ?_;refine wL (d:=17) rfl (fun hg37=>?_) (fun hg37=>?_)
    ·replace h:=iT hg37 h;refine wT (mV rfl) rfl rfl rfl<|wT (mV rfl) rfl rfl rfl ?_;replace h:=iIdx h;obtain⟨x38,hy39,h⟩:=h;refine wT (iX (enc:=TRun.e) (L:=l1) (y:=x38) Try.underlying28 Try.sizeOf66 rfl rfl hy39 (fun _=>rfl)) rfl rfl rfl<|wT (fE Try.underlying66 rfl Try.sizeOf32 (by decide) rfl rfl) rfl rfl rfl<|wT (LR.loadEp Try.isAgg32 rfl rfl) rfl rfl rfl<|wT (mV rfl) rfl rfl rfl<|wT (LR.leq rfl rfl) rfl rfl rfl<|wy (tl:=[(0,_),(1,_),(5,_),(17,_),(18,_),(19,_),(20,_),(21,_),(22,_),(23,_),(24,_)]) (to:=[]) ?_;refine wS (pT rfl rfl) rfl<|wm ?_;refine wL (d:=26) rfl (fun hg40=>?_) (fun hg40=>?_)
     ·replace h:=iT hg40 h;refine wT (mV rfl) rfl rfl rfl<|wT (mV rfl) rfl rfl rfl<|wT (mV rfl) rfl rfl rfl ?_;replace h:=iIdx h;obtain⟨x41,hy42,h⟩:=h;refine wT (iX (enc:=TRun.e) (L:=l1) (y:=x41) Try.underlying28 Try.sizeOf66 rfl rfl hy42 (fun _=>rfl)) rfl rfl rfl<|wT (fE Try.underlying66 rfl Try.sizeOf32 (by decide) rfl rfl) rfl rfl rfl<|wT (LR.loadEp Try.isAgg32 rfl rfl) rfl rfl rfl<|wT (LR.leq rfl rfl) rfl rfl rfl<|wS (pT rfl rfl) rfl<|wN ?_;exact⟨(decide (n2 ≤ x41.hi)),(),h,sP⟩
     ·replace h:=iF hg40 h;refine wf<|wf<|wf<|wf<|wf<|wf<|wf<|wS (pF rfl rfl) rfl<|wN ?_;exact⟨false,(),h,sP⟩
    ·replace h:=iF hg37 h;refine wf<|wf<|wf<|wf<|wf<|wf<|wf<|wy (tl:=[(0,_),(1,_),(5,_),(17,_),(18,_),(19,_),(20,_),(21,_),(22,_),(23,_),(24,_)]) (to:=[]) ?_;refine wS (pF rfl rfl) rfl<|wm ?_;refine wf<|wf<|wf<|wf<|wf<|wf<|wf<|wS (pF rfl rfl) rfl<|wN ?_;exact⟨false,(),h,sP⟩
   ·rintro v32 _ h;refine wC rfl (fun hc43=>?_) (fun hc43=>?_)
    ·replace h:=iT hc43 h;refine wQ<|wR<|wa ?_;refine wN<|wX ?_;replace h:_=r0:=h;subst h;exact⟨.inr rfl,_,.cons (.tmp rfl rfl)<|.nil,rfl⟩
    ·replace h:=iF hc43 h;refine wK<|wR<|wm ?_;refine wS (LR.addW rfl rfl) rfl<|wa ?_;refine wN ?_;exact⟨(IntKind.i64.wrap (i30+1)),(),h,sP⟩
  ·replace h:=iF hc31 h;refine wZ ?_;exact⟨(),(),h,sP⟩
 ·rintro _ _ h;refine wQ<|wR<|wa ?_;refine wN<|wX ?_;replace h:_=r0:=h;subst h;exact⟨.inr rfl,_,.cons (.tmp rfl rfl)<|.nil,rfl⟩
theorem r06_put_ok(l1:List Int)(n2:Int)(r0:List Int)(h:(r06_put l1 n2).wp (·=r0)):PRow Try.prog 38 [.d (.sl (List.map (eK .u64) l1)),.d (.v (.int .u64 n2))] 32 1 (List.map (eK .u64) r0):=by
 refine PRow.intro (sl:=[(0,_),(1,_)]) Try.func38 rfl Try.ntmps38 rfl rfl ?_;intro ctx hK;refine wQ<|wR<|wS (aR 32 1 rfl) rfl<|wN<|wQ<|wR<|wS (aR 32 1 rfl) rfl<|wN<|wQ ?_;refine wR<|wa ?_;refine wN<|wQ<|wQ<|wR<|wa ?_;refine wN ?_;refine wJ (iBind h) (fun(⟨done3,out4⟩:Bool×List Int) (_:Unit)=>⟨48,[(1,.d (.v (.int .u64 n2))),(5,.row 5 (List.length out4)),(6,.d (.v (.bool done3)))],[(5,.row 32 1 (List.map (eK .u64) out4))]⟩) (fun h=>?_) ?_
 ·refine wB<|wM (fun(⟨done43,i44,out45⟩:Bool×Int×List Int) (_:Unit)=>⟨48,[(0,.d (.sl (List.map (eK .u64) l1))),(1,.d (.v (.int .u64 n2))),(5,.row 5 (List.length out45)),(6,.d (.v (.bool done43))),(7,.d (.v (.int .i64 i44)))],[(5,.row 32 1 (List.map (eK .u64) out45))]⟩) () h (sP) ?_;rintro N ⟨done43,i44,out45⟩ _ h;refine wQ<|wQ<|wR<|wm ?_;refine wm ?_;refine wS (lM (enc:=(eK .u64)) (L:=l1) Try.underlying68 rfl) rfl<|wS (LR.lss rfl rfl) rfl<|wN ?_;refine wC rfl (fun hc46=>?_) (fun hc46=>?_)
  ·replace h:=iT hc46 h;refine wK<|wQ ?_;refine wJ (iBind h) (fun(⟨done47,out48⟩:Bool×List Int) (_:Unit)=>⟨48,[(0,.d (.sl (List.map (eK .u64) l1))),(1,.d (.v (.int .u64 n2))),(5,.row 5 (List.length out48)),(6,.d (.v (.bool done47))),(7,.d (.v (.int .i64 i44)))],[(5,.row 32 1 (List.map (eK .u64) out48))]⟩) (fun h=>?_) ?_
   ·refine wB<|wQ<|wQ ?_;refine wJ (iBind h) (fun(v49:Bool) (_:Unit)=>⟨48,[(0,.d (.sl (List.map (eK .u64) l1))),(1,.d (.v (.int .u64 n2))),(5,.row 5 (List.length out45)),(6,.d (.v (.bool done43))),(7,.d (.v (.int .i64 i44))),(23,.d (.v (.bool v49)))],[(5,.row 32 1 (List.map (eK .u64) out45))]⟩) (fun h=>?_) ?_
    ·refine wR<|wm ?_;refine wS (LR.not rfl) rfl<|wm ?_;refine wL (d:=16) rfl (fun hg50=>?_) (fun hg50=>?_)
     ·replace h:=iT hg50 h;refine wT (mV rfl) rfl rfl rfl<|wT (mV rfl) rfl rfl rfl ?_;replace h:=iIdx h;obtain⟨x51,hy52,h⟩:=h;refine wT (iX (enc:=(eK .u64)) (L:=l1) (y:=x51) Try.underlying68 Try.sizeOf32 rfl rfl hy52 (fun _=>rfl)) rfl rfl rfl<|wT (LR.loadEp Try.isAgg32 rfl rfl) rfl rfl rfl<|wT (mV rfl) rfl rfl rfl<|wT (LR.geq rfl rfl) rfl rfl rfl<|wS (pT rfl rfl) rfl<|wN ?_;exact⟨(decide (n2 ≤ x51)),(),h,sP⟩
     ·replace h:=iF hg50 h;refine wf<|wf<|wf<|wf<|wf<|wf<|wS (pF rfl rfl) rfl<|wN ?_;exact⟨false,(),h,sP⟩
    ·rintro v49 _ h;refine wJ (iBind h) (fun(⟨done53,out54⟩:Bool×List Int) (_:Unit)=>⟨48,[(0,.d (.sl (List.map (eK .u64) l1))),(1,.d (.v (.int .u64 n2))),(5,.row 5 (List.length out54)),(6,.d (.v (.bool done53))),(7,.d (.v (.int .i64 i44)))],[(5,.row 32 1 (List.map (eK .u64) out54))]⟩) (fun h=>?_) ?_
     ·refine wC rfl (fun hc55=>?_) (fun hc55=>?_)
      ·replace h:=iT hc55 h;refine wQ<|wR<|wm ?_;refine wm ?_;refine wS (LR.buildSliceD [.tmp 25] elem68 rfl rfl (.cons rfl rfl rfl<|.nil) (by decide) (by decide)) rfl ?_;replace h:=iNeed h;obtain⟨hy56,h⟩:=h;refine wS (LR.appT (enc:=(eK .u64)) (L:=out45) (R:=[n2]) [5,24] elem68 Try.underlying68 rfl rfl rfl (Src.slT (enc:=(eK .u64)) (R:=[n2]) rfl (fun _=>rfl)) (fun _=>rfl) hy56 rfl rfl) rfl<|wa ?_;refine wN<|wR<|wa ?_;refine wN ?_;exact⟨(true,(out45++[n2])),(),h,sP⟩
      ·replace h:=iF hc55 h;refine wK ?_;exact⟨(done43,out45),(),h,sP⟩
     ·rintro⟨done53,out54⟩ _ h;refine wQ<|wR<|wm ?_;refine wm ?_;replace h:=iIdx h;obtain⟨x57,hy58,h⟩:=h;refine wS (iX (enc:=(eK .u64)) (L:=l1) (y:=x57) Try.underlying68 Try.sizeOf32 rfl rfl hy58 (fun _=>rfl)) rfl<|wS (LR.loadEp Try.isAgg32 rfl rfl) rfl<|wm ?_;refine wS (nQ rfl rfl) rfl<|wN ?_;refine wC rfl (fun hc59=>?_) (fun hc59=>?_)
      ·replace h:=iT hc59 h;refine wR<|wm ?_;refine wm ?_;refine wm ?_;replace h:=iIdx h;obtain⟨x60,hy61,h⟩:=h;refine wS (iX (enc:=(eK .u64)) (L:=l1) (y:=x60) Try.underlying68 Try.sizeOf32 rfl rfl hy61 (fun _=>rfl)) rfl<|wS (LR.loadEp Try.isAgg32 rfl rfl) rfl<|wS (LR.buildSliceD [.tmp 38] elem68 rfl rfl (.cons rfl rfl rfl<|.nil) (by decide) (by decide)) rfl ?_;replace h:=iNeed h;obtain⟨hy62,h⟩:=h;refine wS (LR.appT (enc:=(eK .u64)) (L:=out54) (R:=[x60]) [5,34] elem68 Try.underlying68 rfl rfl rfl (Src.slT (enc:=(eK .u64)) (R:=[x60]) rfl (fun _=>rfl)) (fun _=>rfl) hy62 rfl rfl) rfl<|wa ?_;refine wN ?_;exact⟨(done53,(out54++[x60])),(),h,sP⟩
      ·replace h:=iF hc59 h;refine wK ?_;exact⟨(done53,out54),(),h,sP⟩
   ·rintro⟨done47,out48⟩ _ h;refine wR<|wm ?_;refine wS (LR.addW rfl rfl) rfl<|wa ?_;refine wN ?_;exact⟨(done47,(IntKind.i64.wrap (i44+1)),out48),(),h,sP⟩
  ·replace h:=iF hc46 h;refine wZ ?_;exact⟨(done43,out45),(),h,sP⟩
 ·rintro⟨done3,out4⟩ _ h;refine wQ<|wQ<|wR<|wm ?_;refine wS (LR.not rfl) rfl<|wN ?_;refine wJ (iBind h) (fun(out63:List Int) (_:Unit)=>⟨48,[(5,.row 5 (List.length out63))],[(5,.row 32 1 (List.map (eK .u64) out63))]⟩) (fun h=>?_) ?_
  ·refine wC rfl (fun hc64=>?_) (fun hc64=>?_)
   ·replace h:=iT hc64 h;refine wR<|wm ?_;refine wm ?_;refine wS (LR.buildSliceD [.tmp 44] elem68 rfl rfl (.cons rfl rfl rfl<|.nil) (by decide) (by decide)) rfl ?_;replace h:=iNeed h;obtain⟨hy65,h⟩:=h;refine wS (LR.appT (enc:=(eK .u64)) (L:=out4) (R:=[n2]) [5,43] elem68 Try.underlying68 rfl rfl rfl (Src.slT (enc:=(eK .u64)) (R:=[n2]) rfl (fun _=>rfl)) (fun _=>rfl) hy65 rfl rfl) rfl<|wa ?_;refine wN ?_;exact⟨(out4++[n2]),(),h,sP⟩
   ·replace h:=iF hc64 h;refine wK ?_;exact⟨out4,(),h,sP⟩
  ·rintro out63 _ h;refine wQ<|wR<|wm ?_;refine wa ?_;refine wN<|wX ?_;replace h:_=r0:=h;subst h;exact⟨.inr rfl,4,rfl,.inr ⟨5,_,rfl,(by simp),rfl⟩⟩
end Go.Proofs
namespace Go.Proofs
open Go.Ep
set_option maxHeartbeats 1000000
set_option maxRecDepth 100000
set_option linter.unusedVariables false
set_option linter.unusedSimpArgs false
theorem r06_points_ok(a1:List TRun)(b2:List TRun)(r0:List Int)(h:(r06_points a1 b2).wp (·=r0)):PFun Try.prog 34 [.d (.sl (List.map TRun.e a1)),.d (.sl (List.map TRun.e b2))] (.d (.sl (List.map (eK .u64) r0))):=by
 refine fI (sl:=[(0,_),(1,_)]) Try.func34 rfl Try.ntmps34 rfl rfl ?_;intro ctx hK;refine wQ<|wR<|wS (aR 32 1 rfl) rfl<|wN<|wQ<|wR<|wS (aR 32 1 rfl) rfl<|wN<|wQ ?_;refine wR<|wS (LR.buildSlice [] elem28 rfl rfl (.nil) (by decide) (by decide) rfl) rfl<|wm ?_;replace h:=iNeed h;obtain⟨hy3,h⟩:=h;refine wS (LR.appT (enc:=TRun.e) (L:=([]:List TRun)) (R:=a1) [8] elem28 Try.underlying28 rfl (by first | (simp;done) | (simp;omega) | omega) rfl (Src.slT (enc:=TRun.e) (R:=a1) rfl (fun _=>rfl)) (fun _=>rfl) hy3 rfl rfl) rfl ?_;refine wm ?_;replace h:=iNeed h;obtain⟨hy4,h⟩:=h;refine wS (LR.appT (enc:=TRun.e) (L:=(([]:List TRun)++a1)) (R:=b2) [10] elem28 Try.underlying28 rfl rfl rfl (Src.slT (enc:=TRun.e) (R:=b2) rfl (fun _=>rfl)) (fun _=>rfl) hy4 rfl rfl) rfl<|wa ?_;refine wN<|wQ<|wQ<|wR<|wa ?_;refine wN ?_;refine wJ (iBind h) (fun(out5:List Int) (_:Unit)=>⟨40,[(5,.d (.sl (List.map (eK .u64) out5)))],[]⟩) (fun h=>?_) ?_
 ·refine wB ?_;refine wM (fun(⟨out38,i39⟩:List Int×Int) (_:Unit)=>⟨40,[(5,.d (.sl (List.map (eK .u64) out38))),(6,.row 8 ((List.length ((([]:List TRun)++a1)++b2)))),(7,.d (.v (.int .i64 i39)))],[(8,.row 66 2 (List.map TRun.e (((([]:List TRun)++a1)++b2))))]⟩) () h (Sub.trans (Sub.frz [5] hK rfl (by first | (simp;done) | (simp;omega) | omega) (AllRow.get (.cons rfl<|.nil)))<|sO rfl (.cons rfl rfl<|.cons rfl (by first | rfl | (simp;done) | (congr 1;first | (simp;done) | (simp;omega) | omega))<|.cons rfl rfl<|.nil) (.cons rfl rfl<|.nil)) ?_;rintro N ⟨out38,i39⟩ _ h;refine wQ<|wQ<|wR<|wm ?_;refine wm ?_;refine wS (LR.lenRow Try.underlying28 rfl) rfl<|wS (LR.lss rfl rfl) rfl<|wN ?_;refine wC rfl (fun hc40=>?_) (fun hc40=>?_)
  ·replace h:=iT hc40 h;refine wK<|wQ ?_;refine wJ (iBind h) (fun(out41:List Int) (_:Unit)=>⟨40,[(5,.d (.sl (List.map (eK .u64) out41))),(6,.row 8 ((List.length ((([]:List TRun)++a1)++b2)))),(7,.d (.v (.int .i64 i39)))],[(8,.row 66 2 (List.map TRun.e (((([]:List TRun)++a1)++b2))))]⟩) (fun h=>?_) ?_
   ·refine wB<|wQ<|wR<|wm ?_;refine wm ?_;replace h:=iIdx h;obtain⟨x42,hy43,h⟩:=h;refine wS (LR.idxRowT (L:=((([]:List TRun)++a1)++b2)) (y:=x42) Try.underlying28 Try.sizeOf66 rfl (by first | (simp;done) | (simp;omega) | omega) rfl hy43) rfl ?_;refine wS (LR.loadRpT (enc:=TRun.e) (L:=((([]:List TRun)++a1)++b2)) (y:=x42) Try.isAgg66 Try.sizeOf66 rfl rfl hy43.2) rfl ?_;replace h:=iDet h;obtain⟨v44,hy45,h⟩:=h;refine wS (cN (r06_may_ok x42 v44 hy45) rfl Try.call32 rfl rfl rfl rfl) rfl<|wN ?_;refine wC rfl (fun hc46=>?_) (fun hc46=>?_)
    ·replace h:=iT hc46 h;refine wQ<|wR<|wm ?_;refine wm ?_;refine wm ?_;replace h:=iIdx h;obtain⟨x47,hy48,h⟩:=h;refine wS (LR.idxRowT (L:=((([]:List TRun)++a1)++b2)) (y:=x47) Try.underlying28 Try.sizeOf66 rfl (by first | (simp;done) | (simp;omega) | omega) rfl hy48) rfl ?_;refine wS (LR.fieldRp Try.underlying66 rfl Try.sizeOf32 (by decide) rfl rfl) rfl<|wS (LR.loadRpF (enc:=TRun.e) (L:=((([]:List TRun)++a1)++b2)) (y:=x47) Try.isAgg32 rfl rfl hy48.2 rfl) rfl ?_;replace h:=iDet h;obtain⟨v49,hy50,h⟩:=h;refine wS (LR.rowN (r06_put_ok out38 x47.lo v49 hy50) rfl Try.call38 rfl rfl rfl rfl) rfl<|wa ?_;refine wN<|wR<|wm ?_;refine wy (tl:=[(5,_),(6,_),(7,_),(31,_)]) (to:=[(8,_),(30,_)]) ?_;refine wm ?_;refine wm ?_;replace h:=iIdx h;obtain⟨x51,hy52,h⟩:=h;refine wS (LR.idxRowT (L:=((([]:List TRun)++a1)++b2)) (y:=x51) Try.underlying28 Try.sizeOf66 rfl (by first | (simp;done) | (simp;omega) | omega) rfl hy52) rfl ?_;refine wS (LR.fieldRp Try.underlying66 rfl Try.sizeOf32 (by decide) rfl rfl) rfl<|wS (LR.loadRpF (enc:=TRun.e) (L:=((([]:List TRun)++a1)++b2)) (y:=x51) Try.isAgg32 rfl rfl hy52.2 rfl) rfl<|wS (LR.addW rfl rfl) rfl ?_;replace h:=iDet h;obtain⟨v53,hy54,h⟩:=h;refine PWl.frz [5,31] hK (.cons rfl<|.cons rfl<|.nil) rfl (by simp) ?_;refine wS (LR.rowN (r06_put_ok v49 (IntKind.u64.wrap (x51.hi+1)) v53 hy54) rfl Try.call38 rfl rfl rfl rfl) rfl<|wa ?_;refine wN ?_;exact⟨v53,(),h,Sub.trans (Sub.frz [5,38] hK rfl (by simp) (AllRow.get (.cons rfl<|.cons rfl<|.nil)))<|sO rfl (.cons rfl rfl<|.cons rfl (by first | rfl | (simp;done) | (congr 1;first | (simp;done) | (simp;omega) | omega))<|.cons rfl rfl<|.nil) (.cons rfl rfl<|.nil)⟩
    ·replace h:=iF hc46 h;refine wK ?_;exact⟨out38,(),h,sO rfl (.cons rfl rfl<|.cons rfl (by first | rfl | (simp;done) | (congr 1;first | (simp;done) | (simp;omega) | omega))<|.cons rfl rfl<|.nil) (.cons rfl rfl<|.nil)⟩
   ·rintro out41 _ h;refine wR<|wm ?_;refine wS (LR.addW rfl rfl) rfl<|wa ?_;refine wN ?_;exact⟨(out41,(IntKind.i64.wrap (i39+1))),(),h,sO rfl (.cons rfl rfl<|.cons rfl (by first | rfl | (simp;done) | (congr 1;first | (simp;done) | (simp;omega) | omega))<|.cons rfl rfl<|.nil) (.cons rfl rfl<|.nil)⟩
  ·replace h:=iF hc40 h;refine wZ ?_;exact⟨out38,(),h,sP⟩
 ·rintro out5 _ h;refine wQ<|wR<|wm ?_;refine wa ?_;refine wN<|wX ?_;replace h:_=r0:=h;subst h;exact⟨.inr rfl,_,.cons (.tmp rfl rfl)<|.nil,rfl⟩
theorem r06_set_ok(a1:List TRun)(b2:List TRun)(how3:Int)(r0:List TRun)(h:(r06_set a1 b2 how3).wp (·=r0)):PRow Try.prog 26 [.d (.sl (List.map TRun.e a1)),.d (.sl (List.map TRun.e b2)),.d (.v (.int .i64 how3))] 66 2 (List.map TRun.e r0):=by
 refine PRow.intro (sl:=[(0,_),(1,_),(2,_)]) Try.func26 rfl Try.ntmps26 rfl rfl ?_;intro ctx hK;refine wQ<|wR<|wS (aR 66 2 rfl) rfl<|wN<|wQ<|wR<|wm ?_;refine wm ?_;replace h:=iDet h;obtain⟨v4,hy5,h⟩:=h;refine wS (cN (r06_points_ok a1 b2 v4 hy5) rfl Try.call34 rfl rfl rfl rfl) rfl<|wa ?_;refine wN<|wQ<|wR<|wS (aR 66 2 rfl) rfl<|wN<|wQ<|wQ<|wR<|wa ?_;refine wN ?_;refine wJ (iBind h) (fun(out6:List TRun) (_:Unit)=>⟨100,[(8,.row 8 (List.length out6))],[(8,.row 66 2 (List.map TRun.e out6))]⟩) (fun h=>?_) ?_
 ·refine wB<|wM (fun(⟨i85,out86⟩:Int×List TRun) (_:Unit)=>⟨100,[(0,.d (.sl (List.map TRun.e a1))),(1,.d (.sl (List.map TRun.e b2))),(2,.d (.v (.int .i64 how3))),(7,.d (.sl (List.map (eK .u64) v4))),(8,.row 8 (List.length out86)),(9,.d (.v (.int .i64 i85)))],[(8,.row 66 2 (List.map TRun.e out86))]⟩) () h (sP) ?_;rintro N ⟨i85,out86⟩ _ h;refine wQ<|wQ<|wR<|wm ?_;refine wS (LR.addW rfl rfl) rfl<|wm ?_;refine wS (lM (enc:=(eK .u64)) (L:=v4) Try.underlying68 rfl) rfl<|wS (LR.lss rfl rfl) rfl<|wN ?_;refine wC rfl (fun hc87=>?_) (fun hc87=>?_)
  ·replace h:=iT hc87 h;refine wK<|wQ ?_;refine wJ (iBind h) (fun(out88:List TRun) (_:Unit)=>⟨100,[(0,.d (.sl (List.map TRun.e a1))),(1,.d (.sl (List.map TRun.e b2))),(2,.d (.v (.int .i64 how3))),(7,.d (.sl (List.map (eK .u64) v4))),(8,.row 8 (List.length out88)),(9,.d (.v (.int .i64 i85)))],[(8,.row 66 2 (List.map TRun.e out88))]⟩) (fun h=>?_) ?_
   ·refine wB<|wQ<|wD (by kernel_rfl) (by kernel_rfl) ?_;refine qS (fun _ he ho=>mV (he rfl rfl)) rfl ?_;refine qS (fun _ he ho=>mV (he rfl rfl)) rfl ?_;refine qS (fun _ he ho=>mV (he rfl rfl)) rfl ?_;replace h:=iIdx h;obtain⟨x89,hy90,h⟩:=h;refine qS (fun _ he ho=>iX (enc:=(eK .u64)) (L:=v4) (y:=x89) Try.underlying68 Try.sizeOf32 (he rfl rfl) (he rfl rfl) hy90 (fun _=>rfl)) rfl ?_;refine qS (fun _ he ho=>LR.loadEp Try.isAgg32 (he rfl rfl) rfl) rfl ?_;replace h:=iDet h;obtain⟨v91,hy92,h⟩:=h;refine qS (fun _ he ho=>cN (r06_Has_ok a1 x89 v91 hy92) (he rfl rfl) Try.call24 (evsE he rfl rfl) rfl rfl rfl) rfl ?_;refine qS (fun _ he ho=>mV (he rfl rfl)) rfl ?_;refine qS (fun _ he ho=>mV (he rfl rfl)) rfl ?_;refine qS (fun _ he ho=>mV (he rfl rfl)) rfl ?_;replace h:=iIdx h;obtain⟨x93,hy94,h⟩:=h;refine qS (fun _ he ho=>iX (enc:=(eK .u64)) (L:=v4) (y:=x93) Try.underlying68 Try.sizeOf32 (he rfl rfl) (he rfl rfl) hy94 (fun _=>rfl)) rfl ?_;refine qS (fun _ he ho=>LR.loadEp Try.isAgg32 (he rfl rfl) rfl) rfl ?_;replace h:=iDet h;obtain⟨v95,hy96,h⟩:=h;refine qS (fun _ he ho=>cN (r06_Has_ok b2 x93 v95 hy96) (he rfl rfl) Try.call24 (evsE he rfl rfl) rfl rfl rfl) rfl ?_;refine qS (fun _ he ho=>aS (he rfl rfl)) rfl ?_;refine qS (fun _ he ho=>aS (he rfl rfl)) rfl<|qN<|wQ<|wz (tl:=[(0,_),(1,_),(2,_),(7,_),(8,_),(9,_),(10,_),(11,_)]) (to:=[(8,_)]) ?_;refine wJ (iBind h) (fun(in97:Bool) (_:Unit)=>⟨100,[(0,.d (.sl (List.map TRun.e a1))),(1,.d (.sl (List.map TRun.e b2))),(2,.d (.v (.int .i64 how3))),(7,.d (.sl (List.map (eK .u64) v4))),(8,.row 8 (List.length out86)),(9,.d (.v (.int .i64 i85))),(10,.d (.v (.bool v91))),(11,.d (.v (.bool v95))),(12,.d (.v (.bool in97)))],[(8,.row 66 2 (List.map TRun.e out86))]⟩) (fun h=>?_) ?_
    ·refine wR<|wm ?_;refine wm ?_;refine wL (d:=37) rfl (fun hg98=>?_) (fun hg98=>?_)
     ·replace h:=iT hg98 h;refine wf<|wS (pT rfl rfl) rfl<|wa ?_;refine wN ?_;exact⟨true,(),h,sP⟩
     ·replace h:=iF hg98 h;refine wT (mV rfl) rfl rfl rfl<|wS (pF rfl rfl) rfl<|wa ?_;refine wN ?_;exact⟨v95,(),h,sP⟩
    ·rintro in97 _ h;refine wQ<|wQ<|wR<|wm ?_;refine wS (eQ rfl rfl) rfl<|wN ?_;refine wJ (iBind h) (fun(in99:Bool) (_:Unit)=>⟨100,[(0,.d (.sl (List.map TRun.e a1))),(1,.d (.sl (List.map TRun.e b2))),(2,.d (.v (.int .i64 how3))),(7,.d (.sl (List.map (eK .u64) v4))),(8,.row 8 (List.length out86)),(9,.d (.v (.int .i64 i85))),(10,.d (.v (.bool v91))),(11,.d (.v (.bool v95))),(12,.d (.v (.bool in99)))],[(8,.row 66 2 (List.map TRun.e out86))]⟩) (fun h=>?_) ?_
     ·refine wC rfl (fun hc100=>?_) (fun hc100=>?_)
      ·replace h:=iT hc100 h;refine wJ (iBind h) (fun(in101:Bool) (_:Unit)=>⟨100,[(0,.d (.sl (List.map TRun.e a1))),(1,.d (.sl (List.map TRun.e b2))),(2,.d (.v (.int .i64 how3))),(7,.d (.sl (List.map (eK .u64) v4))),(8,.row 8 (List.length out86)),(9,.d (.v (.int .i64 i85))),(10,.d (.v (.bool v91))),(11,.d (.v (.bool v95))),(12,.d (.v (.bool in101)))],[(8,.row 66 2 (List.map TRun.e out86))]⟩) (fun h=>?_) ?_
       ·refine wR<|wm ?_;refine wm ?_;refine wL (d:=43) rfl (fun hg102=>?_) (fun hg102=>?_)
        ·replace h:=iT hg102 h;refine wT (mV rfl) rfl rfl rfl<|wS (pT rfl rfl) rfl<|wa ?_;refine wN ?_;exact⟨v95,(),h,sP⟩
        ·replace h:=iF hg102 h;refine wf<|wS (pF rfl rfl) rfl<|wa ?_;refine wN ?_;exact⟨false,(),h,sP⟩
       ·rintro in101 _ h;exact⟨in101,(),h,sP⟩
      ·replace h:=iF hc100 h;refine wK ?_;exact⟨in97,(),h,sP⟩
     ·rintro in99 _ h;refine wQ<|wQ<|wR<|wm ?_;refine wS (eQ rfl rfl) rfl<|wN ?_;refine wJ (iBind h) (fun(in103:Bool) (_:Unit)=>⟨100,[(0,.d (.sl (List.map TRun.e a1))),(1,.d (.sl (List.map TRun.e b2))),(2,.d (.v (.int .i64 how3))),(7,.d (.sl (List.map (eK .u64) v4))),(8,.row 8 (List.length out86)),(9,.d (.v (.int .i64 i85))),(12,.d (.v (.bool in103)))],[(8,.row 66 2 (List.map TRun.e out86))]⟩) (fun h=>?_) ?_
      ·refine wC rfl (fun hc104=>?_) (fun hc104=>?_)
       ·replace h:=iT hc104 h;refine wJ (iBind h) (fun(in105:Bool) (_:Unit)=>⟨100,[(0,.d (.sl (List.map TRun.e a1))),(1,.d (.sl (List.map TRun.e b2))),(2,.d (.v (.int .i64 how3))),(7,.d (.sl (List.map (eK .u64) v4))),(8,.row 8 (List.length out86)),(9,.d (.v (.int .i64 i85))),(12,.d (.v (.bool in105)))],[(8,.row 66 2 (List.map TRun.e out86))]⟩) (fun h=>?_) ?_
        ·refine wR<|wm ?_;refine wm ?_;refine wL (d:=49) rfl (fun hg106=>?_) (fun hg106=>?_)
         ·replace h:=iT hg106 h;refine wT (mV rfl) rfl rfl rfl<|wT (LR.not rfl) rfl rfl rfl<|wS (pT rfl rfl) rfl<|wa ?_;refine wN ?_;exact⟨(!v95),(),h,sP⟩
         ·replace h:=iF hg106 h;refine wf<|wf<|wS (pF rfl rfl) rfl<|wa ?_;refine wN ?_;exact⟨false,(),h,sP⟩
        ·rintro in105 _ h;exact⟨in105,(),h,sP⟩
       ·replace h:=iF hc104 h;refine wK ?_;exact⟨in99,(),h,sP⟩
      ·rintro in103 _ h;refine wQ<|wR<|wm ?_;refine wS (LR.lenRow Try.underlying28 rfl) rfl<|wS (LR.subW rfl rfl) rfl<|wa ?_;refine wN<|wQ ?_;refine wJ (iBind h) (fun(v107:Bool) (_:Unit)=>⟨100,[(0,.d (.sl (List.map TRun.e a1))),(1,.d (.sl (List.map TRun.e b2))),(2,.d (.v (.int .i64 how3))),(7,.d (.sl (List.map (eK .u64) v4))),(8,.row 8 (List.length out86)),(9,.d (.v (.int .i64 i85))),(12,.d (.v (.bool in103))),(13,.d (.v (.int .i64 ((IntKind.i64.wrap (((List.length out86):Int) - 1)))))),(73,.d (.v (.bool v107)))],[(8,.row 66 2 (List.map TRun.e out86))]⟩) (fun h=>?_) ?_
       ·refine wD (by kernel_rfl) (by kernel_rfl) ?_;refine qS (fun _ he ho=>mV (he rfl rfl)) rfl ?_;refine qS (fun _ he ho=>mV (he rfl rfl)) rfl ?_;refine PQl.split (d:=57) rfl (fun hg108=>?_) (fun hg108=>?_)
        ·replace h:=iT hg108 h;refine qT (fun _ he ho=>mV (he rfl rfl)) rfl rfl rfl ?_;refine qT (fun _ he ho=>LR.geq (he rfl rfl) (he rfl rfl)) rfl rfl rfl ?_;refine qS (fun _ he ho=>pT (he rfl rfl) (he rfl rfl)) rfl ?_;refine qS (fun _ he ho=>mV (he rfl rfl)) rfl ?_;refine PQl.split (d:=61) rfl (fun hg109=>?_) (fun hg109=>?_)
         ·replace h:=iT hg109 h;refine qT (fun _ he ho=>mV (he rfl rfl)) rfl rfl rfl ?_;refine qT (fun _ he ho=>mV (he rfl rfl)) rfl rfl rfl ?_;replace h:=iIdx h;obtain⟨x110,hy111,h⟩:=h;refine qT (fun _ he ho=>LR.idxRowT (L:=out86) (y:=x110) Try.underlying28 Try.sizeOf66 (he rfl rfl) rfl (he rfl rfl) hy111) rfl rfl rfl ?_;refine qT (fun _ he ho=>LR.fieldRp Try.underlying66 rfl Try.sizeOf32 (by decide) rfl (he rfl rfl)) rfl rfl rfl ?_;refine qT (fun _ he ho=>LR.loadRpF (enc:=TRun.e) (L:=out86) (y:=x110) Try.isAgg32 (he rfl rfl) (ho rfl) hy111.2 rfl) rfl rfl rfl ?_;refine qT (fun _ he ho=>LR.addW (he rfl rfl) (he rfl rfl)) rfl rfl rfl ?_;refine qT (fun _ he ho=>mV (he rfl rfl)) rfl rfl rfl ?_;refine qT (fun _ he ho=>mV (he rfl rfl)) rfl rfl rfl ?_;replace h:=iIdx h;obtain⟨x112,hy113,h⟩:=h;refine qT (fun _ he ho=>iX (enc:=(eK .u64)) (L:=v4) (y:=x112) Try.underlying68 Try.sizeOf32 (he rfl rfl) (he rfl rfl) hy113 (fun _=>rfl)) rfl rfl rfl ?_;refine qT (fun _ he ho=>LR.loadEp Try.isAgg32 (he rfl rfl) rfl) rfl rfl rfl ?_;refine qT (fun _ he ho=>eQ (he rfl rfl) (he rfl rfl)) rfl rfl rfl ?_;refine qS (fun _ he ho=>pT (he rfl rfl) (he rfl rfl)) rfl<|qN ?_;exact⟨(decide ((IntKind.u64.wrap (x110.hi+1))=x112)),(),h,sP⟩
         ·replace h:=iF hg109 h;refine qF rfl rfl rfl (by decide)<|qF rfl rfl rfl (by decide)<|qF rfl rfl rfl (by decide)<|qF rfl rfl rfl (by decide)<|qF rfl rfl rfl (by decide)<|qF rfl rfl rfl (by decide)<|qF rfl rfl rfl (by decide)<|qF rfl rfl rfl (by decide)<|qF rfl rfl rfl (by decide) ?_;refine qF rfl rfl rfl (by decide)<|qF rfl rfl rfl (by decide) ?_;refine qS (fun _ he ho=>pF (he rfl rfl) (he rfl rfl)) rfl<|qN ?_;exact⟨false,(),h,sP⟩
        ·replace h:=iF hg108 h;refine qF rfl rfl rfl (by decide)<|qF rfl rfl rfl (by decide) ?_;refine qS (fun _ he ho=>pF (he rfl rfl) (he rfl rfl)) rfl ?_;refine qS (fun _ he ho=>mV (he rfl rfl)) rfl<|qF rfl rfl rfl (by decide)<|qF rfl rfl rfl (by decide)<|qF rfl rfl rfl (by decide)<|qF rfl rfl rfl (by decide)<|qF rfl rfl rfl (by decide)<|qF rfl rfl rfl (by decide)<|qF rfl rfl rfl (by decide)<|qF rfl rfl rfl (by decide) ?_;refine qF rfl rfl rfl (by decide)<|qF rfl rfl rfl (by decide)<|qF rfl rfl rfl (by decide) ?_;refine qS (fun _ he ho=>pF (he rfl rfl) (he rfl rfl)) rfl<|qN ?_;exact⟨false,(),h,sP⟩
       ·rintro v107 _ h;refine wC rfl (fun hc114=>?_) (fun hc114=>?_)
        ·replace h:=iT hc114 h;refine wR<|wm ?_;refine wm ?_;refine wm ?_;refine wm ?_;refine wS (LR.addW rfl rfl) rfl ?_;replace h:=iIdx h;obtain⟨x115,hy116,h⟩:=h;refine wS (iX (enc:=(eK .u64)) (L:=v4) (y:=x115) Try.underlying68 Try.sizeOf32 rfl rfl hy116 (fun _=>rfl)) rfl<|wS (LR.loadEp Try.isAgg32 rfl rfl) rfl<|wS (LR.subW rfl rfl) rfl ?_;replace h:=iIdx h;obtain⟨x117,hy118,h⟩:=h;refine wS (LR.idxRowT (L:=out86) (y:=x117) Try.underlying28 Try.sizeOf66 rfl rfl rfl hy118) rfl<|wS (LR.fieldRp Try.underlying66 rfl Try.sizeOf32 (by decide) rfl rfl) rfl<|wS (LR.storeRpT (enc:=TRun.e) (L:=out86) (a:=x117) (b:=(⟨x117.lo,(IntKind.u64.wrap (x115 - 1))⟩:TRun)) Try.sizeOf32 rfl rfl rfl rfl rfl hy118.2 rfl rfl) rfl<|wN ?_;exact⟨(List.set out86 ((Int.toNat ((IntKind.i64.wrap (((List.length out86):Int) - 1))))) ((⟨x117.lo,(IntKind.u64.wrap (x115 - 1))⟩:TRun))),(),h,sO rfl (.c4 rfl rfl rfl rfl rfl rfl rfl rfl<|.cons rfl (by first | rfl | (simp;done) | (congr 1;first | (simp;done) | (simp;omega) | omega))<|.cons rfl rfl<|.nil) (.cons rfl rfl<|.nil)⟩
        ·replace h:=iF hc114 h;refine wQ<|wR<|wm ?_;refine wN ?_;refine wC rfl (fun hc119=>?_) (fun hc119=>?_)
         ·replace h:=iT hc119 h;refine wz (tl:=[(0,_),(1,_),(2,_),(7,_),(8,_),(9,_)]) (to:=[(8,_)]) ?_;refine PWc.regionE [⟨[85],[],[],[],[],[8],[],[]⟩,{ws:=[86]},{ws:=[87]},{ws:=[88]},{ws:=[89]},{ws:=[90]},{ws:=[91]},{ws:=[92]},{ws:=[93]},{ws:=[94]},{ws:=[95]},{ws:=[96]},{ws:=[97]},⟨[8,85,98],[8],[8],[],[(8,[8,85])],[8],[],[]⟩,⟨[8],[],[],[],[],[8],[],[]⟩] (by kernel_rfl) (by kernel_rfl) rfl ?_;refine PQe.stepP (fun _ he ho=>mV (he rfl rfl)) (.inl rfl) rfl ?_;refine PQe.stepP (fun _ he ho=>mV (he rfl rfl)) (.inl rfl) rfl ?_;refine PQe.stepP (fun _ he ho=>mV (he rfl rfl)) (.inl rfl) rfl ?_;replace h:=iIdx h;obtain⟨x120,hy121,h⟩:=h;refine PQe.stepP (fun _ he ho=>iX (enc:=(eK .u64)) (L:=v4) (y:=x120) Try.underlying68 Try.sizeOf32 (he rfl rfl) (he rfl rfl) hy121 (fun _=>rfl)) (.inl rfl) rfl ?_;refine PQe.stepP (fun _ he ho=>LR.loadEp Try.isAgg32 (he rfl rfl) rfl) (.inl rfl) rfl ?_;refine PQe.stepP (fun _ he ho=>mV (he rfl rfl)) (.inl rfl) rfl ?_;refine PQe.stepP (fun _ he ho=>mV (he rfl rfl)) (.inl rfl) rfl ?_;refine PQe.stepP (fun _ he ho=>LR.addW (he rfl rfl) (he rfl rfl)) (.inl rfl) rfl ?_;replace h:=iIdx h;obtain⟨x122,hy123,h⟩:=h;refine PQe.stepP (fun _ he ho=>iX (enc:=(eK .u64)) (L:=v4) (y:=x122) Try.underlying68 Try.sizeOf32 (he rfl rfl) (he rfl rfl) hy123 (fun _=>rfl)) (.inl rfl) rfl ?_;refine PQe.stepP (fun _ he ho=>LR.loadEp Try.isAgg32 (he rfl rfl) rfl) (.inl rfl) rfl ?_;refine PQe.stepP (fun _ he ho=>LR.subW (he rfl rfl) (he rfl rfl)) (.inl rfl) rfl ?_;refine PQe.stepP (fun _ he ho=>LR.build (ns:=[_,_]) build66 rfl (evpE he rfl rfl) rfl) (.inl rfl) rfl ?_;refine PQe.stepP (fun _ he ho=>LR.buildSliceD [.tmp 96] elem28 rfl rfl (.cons (he rfl rfl) rfl rfl<|.nil) (by decide) (by decide)) (.inl rfl) rfl ?_;replace h:=iNeed h;obtain⟨hy124,h⟩:=h;refine PQe.stepA [8,85] (fun _ he ho ha=>LR.appT (enc:=TRun.e) (L:=out86) (R:=[(⟨x120,(IntKind.u64.wrap (x122 - 1))⟩:TRun)]) [8,85] elem28 Try.underlying28 (he rfl rfl) rfl (ho rfl rfl) (Src.slT (enc:=TRun.e) (R:=[(⟨x120,(IntKind.u64.wrap (x122 - 1))⟩:TRun)]) (he rfl rfl) (fun _=>rfl)) (fun _=>rfl) hy124 rfl ha) rfl (.inl rfl) rfl ?_;refine PQe.stepP (fun _ he ho=>aS (he rfl rfl)) (.inl rfl) rfl<|PQe.nil ?_;exact⟨(out86++[(⟨x120,(IntKind.u64.wrap (x122 - 1))⟩:TRun)]),(),h,sO rfl (.c4 rfl rfl rfl rfl rfl rfl rfl rfl<|.cons rfl (by first | rfl | (simp;done) | (congr 1;first | (simp;done) | (simp;omega) | omega))<|.cons rfl rfl<|.nil) (.cons rfl rfl<|.nil)⟩
         ·replace h:=iF hc119 h;refine wK ?_;exact⟨out86,(),h,sP⟩
   ·rintro out88 _ h;refine wR<|wm ?_;refine wS (LR.addW rfl rfl) rfl<|wa ?_;refine wN ?_;exact⟨((IntKind.i64.wrap (i85+1)),out88),(),h,sP⟩
  ·replace h:=iF hc87 h;refine wZ ?_;exact⟨out86,(),h,sP⟩
 ·rintro out6 _ h;refine wQ<|wR<|wm ?_;refine wa ?_;refine wN<|wX ?_;replace h:_=r0:=h;subst h;exact⟨.inr rfl,6,rfl,.inr ⟨8,_,rfl,(by simp),rfl⟩⟩
theorem r06_Join_ok(a1:List TRun)(b2:List TRun)(r0:List TRun)(h:(r06_Join a1 b2).wp (·=r0)):PRow Try.prog 13 [.d (.sl (List.map TRun.e a1)),.d (.sl (List.map TRun.e b2))] 66 2 (List.map TRun.e r0):=by
 refine PRow.intro (sl:=[(0,_),(1,_)]) Try.func13 rfl Try.ntmps13 rfl rfl ?_;intro ctx hK;refine wQ<|wR<|wS (aR 66 2 rfl) rfl<|wN<|wQ<|wR<|wm ?_;refine wm ?_;replace h:=iDet h;obtain⟨v3,hy4,h⟩:=h;refine wS (LR.rowN (r06_set_ok a1 b2 0 v3 hy4) rfl Try.call26 rfl rfl rfl rfl) rfl<|wy (tl:=[(0,_),(1,_),(5,_),(6,_),(7,_)]) (to:=[(7,_)]) ?_;refine wa ?_;refine wN<|wX ?_;replace h:_=r0:=h;subst h;exact⟨.inr rfl,4,rfl,.inr ⟨7,_,rfl,(by simp),rfl⟩⟩
theorem r09_Runs_ok(c1:List TPart)(dev2:Int)(r0:List TRun)(h:(r09_Runs c1 dev2).wp (·=r0)):PFun Try.prog 6 [.d (.sl (List.map TPart.e c1)),.d (.v (.int .u16 dev2))] (.d (.sl (List.map TRun.e r0))):=by
 refine fI (sl:=[(0,_),(1,_)]) Try.func6 rfl Try.ntmps6 rfl rfl ?_;intro ctx hK;refine wQ<|wR<|wS (aR 66 2 rfl) rfl<|wN<|wQ<|wR<|wS (aR 66 2 rfl) rfl<|wN<|wQ ?_;refine wQ<|wR<|wa ?_;refine wN ?_;refine wJ (iBind h) (fun(out3:List TRun) (_:Unit)=>⟨32,[(5,.d (.sl (List.map TRun.e out3)))],[]⟩) (fun h=>?_) ?_
 ·refine wB ?_;refine wM (fun(⟨out28,i29⟩:List TRun×Int) (_:Unit)=>⟨32,[(0,.d (.sl (List.map TPart.e c1))),(1,.d (.v (.int .u16 dev2))),(5,.d (.sl (List.map TRun.e out28))),(6,.d (.v (.int .i64 i29)))],[]⟩) () h (Sub.trans (Sub.frz [5] hK rfl (by first | (simp;done) | (simp;omega) | omega) (AllRow.get (.cons rfl<|.nil)))<|sP) ?_;rintro N ⟨out28,i29⟩ _ h;refine wQ<|wQ<|wR<|wm ?_;refine wm ?_;refine wS (lM (enc:=TPart.e) (L:=c1) Try.underlying25 rfl) rfl<|wS (LR.lss rfl rfl) rfl<|wN ?_;refine wC rfl (fun hc30=>?_) (fun hc30=>?_)
  ·replace h:=iT hc30 h;refine wK<|wQ ?_;refine wJ (iBind h) (fun(out31:List TRun) (_:Unit)=>⟨32,[(0,.d (.sl (List.map TPart.e c1))),(1,.d (.v (.int .u16 dev2))),(5,.d (.sl (List.map TRun.e out31))),(6,.d (.v (.int .i64 i29)))],[]⟩) (fun h=>?_) ?_
   ·refine wB<|wQ ?_;refine wJ (iBind h) (fun(v32:Bool) (_:Unit)=>⟨32,[(0,.d (.sl (List.map TPart.e c1))),(1,.d (.v (.int .u16 dev2))),(5,.d (.sl (List.map TRun.e out28))),(6,.d (.v (.int .i64 i29))),(23,.d (.v (.bool v32)))],[]⟩) (fun h=>?_) ?_
    ·refine wR<|wm ?_;refine wm ?_;replace h:=iIdx h;obtain⟨x33,hy34,h⟩:=h;refine wS (iX (enc:=TPart.e) (L:=c1) (y:=x33) Try.underlying25 Try.sizeOf43 rfl rfl hy34 (fun _=>rfl)) rfl<|wS (fE Try.underlying43 rfl Try.sizeOf23 (by decide) rfl rfl) rfl<|wS (LR.loadEp Try.isAgg23 rfl rfl) rfl<|wm ?_;refine wS (eQ rfl rfl) rfl<|wm ?_;refine wL (d:=20) rfl (fun hg35=>?_) (fun hg35=>?_)
     ·replace h:=iT hg35 h;refine wT (mV rfl) rfl rfl rfl<|wT (nQ rfl rfl) rfl rfl rfl<|wS (pT rfl rfl) rfl<|wN ?_;exact⟨(!decide (dev2=0)),(),h,sP⟩
     ·replace h:=iF hg35 h;refine wf<|wf<|wS (pF rfl rfl) rfl<|wN ?_;exact⟨false,(),h,sP⟩
    ·rintro v32 _ h;refine wC rfl (fun hc36=>?_) (fun hc36=>?_)
     ·replace h:=iT hc36 h;refine wR<|wm ?_;refine wm ?_;refine wm ?_;replace h:=iIdx h;obtain⟨x37,hy38,h⟩:=h;refine wS (iX (enc:=TPart.e) (L:=c1) (y:=x37) Try.underlying25 Try.sizeOf43 rfl rfl hy38 (fun _=>rfl)) rfl<|wS (fE Try.underlying43 rfl Try.sizeOf28 (by decide) rfl rfl) rfl<|wS (LR.loadEp Try.isAgg28 rfl rfl) rfl ?_;replace h:=iDet h;obtain⟨v39,hy40,h⟩:=h;refine wS (LR.rowN (r06_Join_ok out28 x37.runs v39 hy40) rfl Try.call13 rfl rfl rfl rfl) rfl<|wa ?_;refine wN ?_;exact⟨v39,(),h,Sub.trans (Sub.frz [5,30] hK rfl (by simp) (AllRow.get (.cons rfl<|.cons rfl<|.nil)))<|sP⟩
     ·replace h:=iF hc36 h;refine wK ?_;exact⟨out28,(),h,sP⟩
   ·rintro out31 _ h;refine wR<|wm ?_;refine wS (LR.addW rfl rfl) rfl<|wa ?_;refine wN ?_;exact⟨(out31,(IntKind.i64.wrap (i29+1))),(),h,sP⟩
  ·replace h:=iF hc30 h;refine wZ ?_;exact⟨out28,(),h,sP⟩
 ·rintro out3 _ h;refine wQ<|wR<|wm ?_;refine wa ?_;refine wN<|wX ?_;replace h:_=r0:=h;subst h;exact⟨.inr rfl,_,.cons (.tmp rfl rfl)<|.nil,rfl⟩
theorem outbox_Batches_ok(l1:List TEvent)(r0:Int)(h:(outbox_Batches l1).wp (·=r0)):PFun Try.prog 14 [.d (.sl (List.map TEvent.e l1))] (.d (.v (.int .i64 r0))):=by
 refine fI (sl:=[(0,_)]) Try.func14 rfl Try.ntmps14 rfl rfl ?_;intro ctx hK;refine wQ<|wR<|wa ?_;refine wN<|wQ<|wR<|wm ?_;refine wS (lM (enc:=TEvent.e) (L:=l1) Try.underlying22 rfl) rfl<|wS (LR.addW rfl rfl) rfl<|wS (LR.subW rfl rfl) rfl<|wS (LR.quoW rfl rfl (by decide)) rfl<|wa ?_;refine wN<|wX ?_;replace h:_=r0:=h;subst h;exact⟨.inr rfl,_,.cons (.tmp rfl rfl)<|.nil,rfl⟩
end Go.Proofs
namespace Go.Proofs
open Go.Ep
set_option maxHeartbeats 1000000
set_option maxRecDepth 100000
set_option linter.unusedVariables false
set_option linter.unusedSimpArgs false
theorem slices_Clone_sl_Dot_Dot_ok(s1:List TDot)(r0:List TDot)(h:(slices_Clone_sl_Dot_Dot s1).wp (·=r0)):PRow Try.prog 35 [.d (.sl (List.map TDot.e s1))] 34 2 (List.map TDot.e r0):=by
 refine PRow.intro (sl:=[(0,_)]) Try.func35 rfl Try.ntmps35 rfl rfl ?_;intro ctx hK;refine wQ<|wR<|wS (aR 34 2 rfl) rfl<|wN<|wQ<|wQ<|wR<|wm ?_;replace h:=iNil h;refine PWl.eqlNilT (enc:=TDot.e) (L:=s1) Try.underlying35 rfl rfl (fun b2 hy3=>?_);replace h:=h b2 hy3;refine wN ?_;refine wC rfl (fun hc4=>?_) (fun hc4=>?_)
 ·replace h:=iT hc4 h;refine wQ<|wR<|wy (tl:=[(0,_),(3,_),(4,_)]) (to:=[]) ?_;refine wS (aR 34 2 rfl) rfl<|wN<|wX ?_;replace h:_=r0:=h;subst h;exact⟨.inr rfl,2,rfl,.inr ⟨2,_,rfl,(by first | (simp;done) | (simp;omega) | omega),rfl⟩⟩
 ·replace h:=iF hc4 h;refine wK<|wQ<|wR<|wS (LR.buildSlice [] elem35 rfl rfl (.nil) (by decide) (by decide) rfl) rfl<|wm ?_;replace h:=iNeed h;obtain⟨hy5,h⟩:=h;refine wS (LR.appT (enc:=TDot.e) (L:=([]:List TDot)) (R:=s1) [5] elem35 Try.underlying35 rfl (by first | (simp;done) | (simp;omega) | omega) rfl (Src.slT (enc:=TDot.e) (R:=s1) rfl (fun _=>rfl)) (fun _=>rfl) hy5 rfl rfl) rfl ?_;refine wy (tl:=[(0,_),(3,_),(4,_),(6,_),(7,_)]) (to:=[(5,_)]) ?_;refine wa ?_;refine wN<|wX ?_;replace h:_=r0:=h;subst h;exact⟨.inr rfl,2,rfl,.inr ⟨5,_,rfl,(by simp),rfl⟩⟩
theorem event_Copy_ok(e1:TEvent)(r0:TEvent)(h:(event_Copy e1).wp (·=r0)):PFun Try.prog 27 [.agg (List.map .d (TEvent.e e1))] (.agg (List.map .d (TEvent.e r0))):=by
 refine fI (sl:=[(0,_)]) Try.func27 rfl Try.ntmps27 rfl rfl ?_;intro ctx hK;refine wQ<|wR<|wS (LR.box rfl rfl rfl rfl) rfl<|wS (LR.allocZ (cs:=[_,_,_,_,_,_,_]) Try.zeroValue37 rfl rfl rfl rfl) rfl<|wN<|wQ<|wR<|wS (fR Try.underlying37 rfl Try.sizeOf35 (by decide) rfl rfl) rfl<|wS (lD Try.isAgg35 rfl rfl rfl) rfl ?_;replace h:=iDet h;obtain⟨v2,hy3,h⟩:=h;refine wS (LR.rowN (slices_Clone_sl_Dot_Dot_ok e1.kills v2 hy3) rfl Try.call35 rfl rfl rfl rfl) rfl<|wS (fR Try.underlying37 rfl Try.sizeOf35 (by decide) rfl rfl) rfl<|PWl.frz [5] hK (.cons rfl<|.nil) rfl (by simp) ?_;refine wS (sB (ns:=[_,_,_,_,_,_,_]) Try.sizeOf35 rfl rfl rfl rfl rfl rfl rfl) rfl<|wN<|wQ<|wR<|wS (lA (ps:=[_,_,_,_,_,_,_]) Try.isAgg37 Try.sizeOf37 rfl rfl rfl rfl) rfl<|wS (sB (ns:=[_,_,_,_,_,_,_]) Try.sizeOf37 rfl rfl rfl rfl rfl rfl rfl) rfl<|wN<|wX ?_;replace h:_=r0:=h;subst h;exact⟨.inr rfl,_,.cons (.agg Try.isAgg37 Try.sizeOf37 rfl rfl rfl rfl)<|.nil,rfl⟩
theorem outbox_Batch_ok(l1:List TEvent)(pick2:Int)(r0:List TEvent)(h:(outbox_Batch l1 pick2).wp (·=r0)):PRow Try.prog 15 [.d (.sl (List.map TEvent.e l1)),.d (.v (.int .i64 pick2))] 37 7 (List.map TEvent.e r0):=by
 refine PRow.intro (sl:=[(0,_),(1,_)]) Try.func15 rfl Try.ntmps15 rfl rfl ?_;intro ctx hK;refine wQ<|wR<|wS (aR 37 7 rfl) rfl<|wN<|wQ<|wR<|wm ?_;replace h:=iDet h;obtain⟨v3,hy4,h⟩:=h;refine wS (cN (outbox_Batches_ok l1 v3 hy4) rfl Try.call14 rfl rfl rfl rfl) rfl<|wa ?_;refine wN<|wQ<|wQ<|wR<|wm ?_;refine wS (eQ rfl rfl) rfl<|wN ?_;refine wC rfl (fun hc5=>?_) (fun hc5=>?_)
 ·replace h:=iT hc5 h;refine wQ<|wR<|wy (tl:=[(0,_),(1,_),(5,_),(10,_),(11,_),(12,_),(13,_)]) (to:=[]) ?_;refine wS (aR 37 7 rfl) rfl<|wN<|wX ?_;replace h:_=r0:=h;subst h;exact⟨.inr rfl,4,rfl,.inr ⟨4,_,rfl,(by first | (simp;done) | (simp;omega) | omega),rfl⟩⟩
 ·replace h:=iF hc5 h;refine wK<|wQ<|wR<|wm ?_;refine wm ?_;replace h:=iNeed h;obtain⟨hy6,h⟩:=h;refine wS (LR.rem rfl rfl hy6) rfl<|wa ?_;refine wN<|wQ<|wQ<|wR<|wm ?_;refine wS (LR.lss rfl rfl) rfl<|wN ?_;refine wJ (iBind h) (fun(k7:Int) (_:Unit)=>⟨44,[(0,.d (.sl (List.map TEvent.e l1))),(6,.d (.v (.int .i64 k7)))],[]⟩) (fun h=>?_) ?_
  ·refine wC rfl (fun hc8=>?_) (fun hc8=>?_)
   ·replace h:=iT hc8 h;refine wR<|wm ?_;refine wm ?_;refine wS (LR.addW rfl rfl) rfl<|wa ?_;refine wN ?_;exact⟨(IntKind.i64.wrap ((Int.tmod pick2 v3)+v3)),(),h,sP⟩
   ·replace h:=iF hc8 h;refine wK ?_;exact⟨(Int.tmod pick2 v3),(),h,sP⟩
  ·rintro k7 _ h;refine wQ<|wR<|wS (aR 37 7 rfl) rfl<|wN<|wQ<|wQ<|wR<|wm ?_;refine wm ?_;refine wS (LR.mulW rfl rfl) rfl<|wm ?_;refine wS (LR.addW rfl rfl) rfl<|wS (LR.mulW rfl rfl) rfl<|wm ?_;refine wS (lM (enc:=TEvent.e) (L:=l1) Try.underlying22 rfl) rfl<|wS (LR.minI rfl rfl) rfl ?_;replace h:=iNeed h;obtain⟨hy9,h⟩:=h;refine wS (LR.cutT (enc:=TEvent.e) (L:=l1) Try.underlying22 Try.sizeOf37 rfl (fun _=>rfl) rfl rfl hy9) rfl<|wS (lM (enc:=TEvent.e) (L:=(List.drop (Int.toNat (IntKind.i64.wrap (k7*4))) (List.take (Int.toNat ((min ((IntKind.i64.wrap ((IntKind.i64.wrap (k7+1))*4))) (List.length l1:Int)))) l1))) Try.underlying22 rfl) rfl<|wm ?_;refine wN ?_;refine wJ (iBind h) (fun(out10:List TEvent) (_:Unit)=>⟨44,[(7,.row 7 (List.length out10))],[(7,.row 37 7 (List.map TEvent.e out10))]⟩) (fun h=>?_) ?_
   ·refine wB<|wM (fun(⟨v25,out26⟩:Int×List TEvent) (_:Unit)=>⟨44,[(7,.row 7 (List.length out26)),(31,.d (.sl (List.map TEvent.e ((List.drop (Int.toNat (IntKind.i64.wrap (k7*4))) (List.take (Int.toNat ((min ((IntKind.i64.wrap ((IntKind.i64.wrap (k7+1))*4))) (List.length l1:Int)))) l1)))))),(32,.d (.v (.int .i64 ((List.length ((List.drop (Int.toNat (IntKind.i64.wrap (k7*4))) (List.take (Int.toNat ((min ((IntKind.i64.wrap ((IntKind.i64.wrap (k7+1))*4))) (List.length l1:Int)))) l1))):Int))))),(33,.d (.v (.int .i64 v25)))],[(7,.row 37 7 (List.map TEvent.e out26))]⟩) () h (sP) ?_;rintro N ⟨v25,out26⟩ _ h;refine wQ<|wR<|wS (LR.lss rfl rfl) rfl<|wN<|wQ ?_;refine wC rfl (fun hc27=>?_) (fun hc27=>?_)
    ·replace h:=iT hc27 h;refine wK<|wQ<|wB<|wQ<|wR ?_;replace h:=iIdx h;obtain⟨x28,hy29,h⟩:=h;refine wS (iX (enc:=TEvent.e) (L:=(List.drop (Int.toNat (IntKind.i64.wrap (k7*4))) (List.take (Int.toNat ((min ((IntKind.i64.wrap ((IntKind.i64.wrap (k7+1))*4))) (List.length l1:Int)))) l1))) (y:=x28) Try.underlying22 Try.sizeOf37 rfl rfl hy29 (fun _=>rfl)) rfl<|wS (lE (ys:=[_,_,_,_,_,_,_]) Try.isAgg37 Try.sizeOf37 rfl rfl rfl) rfl<|wS (LR.allocZ (cs:=[_,_,_,_,_,_,_]) Try.zeroValue37 rfl rfl rfl rfl) rfl<|wS (sB (ns:=[_,_,_,_,_,_,_]) Try.sizeOf37 rfl rfl rfl rfl rfl rfl rfl) rfl<|wN<|wR<|wm ?_;refine wS (lA (ps:=[_,_,_,_,_,_,_]) Try.isAgg37 Try.sizeOf37 rfl rfl rfl rfl) rfl ?_;replace h:=iDet h;obtain⟨v30,hy31,h⟩:=h;refine wS (cN (event_Copy_ok x28 v30 hy31) rfl Try.call27 rfl rfl rfl rfl) rfl<|wS (LR.buildSliceD [.tmp 39] elem22 rfl rfl (.cons rfl rfl rfl<|.nil) (by decide) (by decide)) rfl ?_;replace h:=iNeed h;obtain⟨hy32,h⟩:=h;refine wS (LR.appT (enc:=TEvent.e) (L:=out26) (R:=[v30]) [7,37] elem22 Try.underlying22 rfl rfl rfl (Src.slT (enc:=TEvent.e) (R:=[v30]) rfl (fun _=>rfl)) (fun _=>rfl) hy32 rfl rfl) rfl<|wa ?_;refine wN<|wR<|wS (LR.addW rfl rfl) rfl<|wm ?_;refine wN ?_;exact⟨((IntKind.i64.wrap (v25+1)),(out26++[v30])),(),h,sP⟩
    ·replace h:=iF hc27 h;refine wZ ?_;exact⟨out26,(),h,sP⟩
   ·rintro out10 _ h;refine wQ<|wR<|wm ?_;refine wa ?_;refine wN<|wX ?_;replace h:_=r0:=h;subst h;exact⟨.inr rfl,4,rfl,.inr ⟨7,_,rfl,(by simp),rfl⟩⟩
theorem r07_Same_ok(a1:List TDot)(b2:List TDot)(r0:Bool)(h:(r07_Same a1 b2).wp (·=r0)):PFun Try.prog 28 [.d (.sl (List.map TDot.e a1)),.d (.sl (List.map TDot.e b2))] (.d (.v (.bool r0))):=by
 refine fI (sl:=[(0,_),(1,_)]) Try.func28 rfl Try.ntmps28 rfl rfl ?_;intro ctx hK;refine wQ<|wR<|wa ?_;refine wN<|wQ<|wQ<|wR<|wm ?_;refine wS (lM (enc:=TDot.e) (L:=a1) Try.underlying35 rfl) rfl<|wm ?_;refine wS (lM (enc:=TDot.e) (L:=b2) Try.underlying35 rfl) rfl<|wS (nQ rfl rfl) rfl<|wN ?_;refine wC rfl (fun hc3=>?_) (fun hc3=>?_)
 ·replace h:=iT hc3 h;refine wQ<|wR<|wa ?_;refine wN<|wX ?_;replace h:_=r0:=h;subst h;exact⟨.inr rfl,_,.cons (.tmp rfl rfl)<|.nil,rfl⟩
 ·replace h:=iF hc3 h;refine wK<|wQ<|wQ<|wR<|wa ?_;refine wN ?_;refine PWc.jnX (iBind h) (fun(_:Unit) (_:Unit)=>⟨26,[],[]⟩) (fun h=>?_) ?_
  ·refine wB<|wM (fun(i17:Int) (_:Unit)=>⟨26,[(0,.d (.sl (List.map TDot.e a1))),(1,.d (.sl (List.map TDot.e b2))),(5,.d (.v (.int .i64 i17)))],[]⟩) () h (sP) ?_;rintro N i17 _ h;refine wQ<|wQ<|wR<|wm ?_;refine wm ?_;refine wS (lM (enc:=TDot.e) (L:=a1) Try.underlying35 rfl) rfl<|wS (LR.lss rfl rfl) rfl<|wN ?_;refine wC rfl (fun hc18=>?_) (fun hc18=>?_)
   ·replace h:=iT hc18 h;refine wK<|wQ<|wB<|wQ<|wD (by kernel_rfl) (by kernel_rfl) ?_;refine qS (fun _ he ho=>mV (he rfl rfl)) rfl ?_;refine qS (fun _ he ho=>mV (he rfl rfl)) rfl ?_;replace h:=iIdx h;obtain⟨x19,hy20,h⟩:=h;refine qS (fun _ he ho=>iX (enc:=TDot.e) (L:=a1) (y:=x19) Try.underlying35 Try.sizeOf34 (he rfl rfl) (he rfl rfl) hy20 (fun _=>rfl)) rfl ?_;refine qS (fun _ he ho=>lE (ys:=[_,_]) Try.isAgg34 Try.sizeOf34 (he rfl rfl) rfl rfl) rfl ?_;refine qS (fun _ he ho=>mV (he rfl rfl)) rfl ?_;refine qS (fun _ he ho=>mV (he rfl rfl)) rfl ?_;replace h:=iIdx h;obtain⟨x21,hy22,h⟩:=h;refine qS (fun _ he ho=>iX (enc:=TDot.e) (L:=b2) (y:=x21) Try.underlying35 Try.sizeOf34 (he rfl rfl) (he rfl rfl) hy22 (fun _=>rfl)) rfl ?_;refine qS (fun _ he ho=>lE (ys:=[_,_]) Try.isAgg34 Try.sizeOf34 (he rfl rfl) rfl rfl) rfl ?_;refine qS (fun _ he ho=>LR.neqAgg (he rfl rfl) (he rfl rfl) rfl rfl eq34) rfl<|qN ?_;refine wC rfl (fun hc23=>?_) (fun hc23=>?_)
    ·replace h:=iT hc23 h;refine wQ<|wR<|wa ?_;refine wN<|wX ?_;replace h:_=r0:=h;subst h;exact⟨.inr rfl,_,.cons (.tmp rfl rfl)<|.nil,rfl⟩
    ·replace h:=iF hc23 h;refine wK<|wR<|wm ?_;refine wS (LR.addW rfl rfl) rfl<|wa ?_;refine wN ?_;exact⟨(IntKind.i64.wrap (i17+1)),(),h,sP⟩
   ·replace h:=iF hc18 h;refine wZ ?_;exact⟨(),(),h,sP⟩
  ·rintro _ _ h;refine wQ<|wR<|wa ?_;refine wN<|wX ?_;replace h:_=r0:=h;subst h;exact⟨.inr rfl,_,.cons (.tmp rfl rfl)<|.nil,rfl⟩
theorem r13_Same_ok(a1:TEvent)(b2:TEvent)(r0:Bool)(h:(r13_Same a1 b2).wp (·=r0)):PFun Try.prog 16 [.agg (List.map .d (TEvent.e a1)),.agg (List.map .d (TEvent.e b2))] (.d (.v (.bool r0))):=by
 refine fI (sl:=[(0,_),(1,_)]) Try.func16 rfl Try.ntmps16 rfl rfl ?_;intro ctx hK;refine wQ<|wR<|wS (LR.box rfl rfl rfl rfl) rfl<|wS (LR.box rfl rfl rfl rfl) rfl<|wa ?_;refine wN<|wQ ?_;refine wJ (iBind h) (fun(v3:Bool) (_:Unit)=>⟨45,[(4,.d (.v (.bool v3)))],[]⟩) (fun h=>?_) ?_
 ·refine wR<|wS (fR Try.underlying37 rfl Try.sizeOf34 (by decide) rfl rfl) rfl<|wS (lA (ps:=[_,_]) Try.isAgg34 Try.sizeOf34 rfl rfl rfl rfl) rfl<|wS (fR Try.underlying37 rfl Try.sizeOf34 (by decide) rfl rfl) rfl<|wS (lA (ps:=[_,_]) Try.isAgg34 Try.sizeOf34 rfl rfl rfl rfl) rfl<|wS (LR.eqlAgg rfl rfl rfl rfl eq34) rfl<|wm ?_;refine wL (d:=10) rfl (fun hg4=>?_) (fun hg4=>?_)
  ·replace h:=iT hg4 h;refine wT (fR Try.underlying37 rfl Try.sizeOf5 (by decide) rfl rfl) rfl rfl rfl<|wT (lD Try.isAgg5 rfl rfl rfl) rfl rfl rfl<|wT (fR Try.underlying37 rfl Try.sizeOf5 (by decide) rfl rfl) rfl rfl rfl<|wT (lD Try.isAgg5 rfl rfl rfl) rfl rfl rfl<|wT (eQ rfl rfl) rfl rfl rfl<|wS (pT rfl rfl) rfl<|wm ?_;refine wL (d:=17) rfl (fun hg5=>?_) (fun hg5=>?_)
   ·replace h:=iT hg5 h;refine wT (fR Try.underlying37 rfl Try.sizeOf32 (by decide) rfl rfl) rfl rfl rfl<|wy (tl:=[(2,_),(3,_),(4,_),(17,_),(18,_)]) (to:=[(2,_),(3,_)]) ?_;refine wT (lD Try.isAgg32 rfl rfl rfl) rfl rfl rfl<|wT (fR Try.underlying37 rfl Try.sizeOf32 (by decide) rfl rfl) rfl rfl rfl<|wT (lD Try.isAgg32 rfl rfl rfl) rfl rfl rfl<|wT (eQ rfl rfl) rfl rfl rfl<|wS (pT rfl rfl) rfl<|wm ?_;refine wL (d:=24) rfl (fun hg6=>?_) (fun hg6=>?_)
    ·replace h:=iT hg6 h;refine wT (fR Try.underlying37 rfl Try.sizeOf5 (by decide) rfl rfl) rfl rfl rfl<|wT (lD Try.isAgg5 rfl rfl rfl) rfl rfl rfl<|wT (fR Try.underlying37 rfl Try.sizeOf5 (by decide) rfl rfl) rfl rfl rfl<|wT (lD Try.isAgg5 rfl rfl rfl) rfl rfl rfl<|wT (eQ rfl rfl) rfl rfl rfl<|wS (pT rfl rfl) rfl<|wm ?_;refine wL (d:=31) rfl (fun hg7=>?_) (fun hg7=>?_)
     ·replace h:=iT hg7 h;refine wT (fR Try.underlying37 rfl Try.sizeOf9 (by decide) rfl rfl) rfl rfl rfl<|wy (tl:=[(2,_),(3,_),(4,_),(31,_),(32,_)]) (to:=[(2,_),(3,_)]) ?_;refine wT (lD Try.isAgg9 rfl rfl rfl) rfl rfl rfl<|wT (fR Try.underlying37 rfl Try.sizeOf9 (by decide) rfl rfl) rfl rfl rfl<|wT (lD Try.isAgg9 rfl rfl rfl) rfl rfl rfl<|wT (LR.eqlStr rfl rfl) rfl rfl rfl<|wS (pT rfl rfl) rfl<|wm ?_;refine wL (d:=38) rfl (fun hg8=>?_) (fun hg8=>?_)
      ·replace h:=iT hg8 h;refine wT (fR Try.underlying37 rfl Try.sizeOf35 (by decide) rfl rfl) rfl rfl rfl<|wT (lD Try.isAgg35 rfl rfl rfl) rfl rfl rfl<|wT (fR Try.underlying37 rfl Try.sizeOf35 (by decide) rfl rfl) rfl rfl rfl<|wT (lD Try.isAgg35 rfl rfl rfl) rfl rfl rfl ?_;replace h:=iDet h;obtain⟨v9,hy10,h⟩:=h;refine wT (cN (r07_Same_ok a1.kills b2.kills v9 hy10) rfl Try.call28 rfl rfl rfl rfl) rfl rfl rfl<|wS (pT rfl rfl) rfl<|wa ?_;refine wN ?_;exact⟨v9,(),h,sP⟩
      ·replace h:=iF hg8 h;refine wf<|wf<|wf<|wf<|wf<|wS (pF rfl rfl) rfl<|wa ?_;refine wN ?_;exact⟨false,(),h,sP⟩
     ·replace h:=iF hg7 h;refine wf<|wy (tl:=[(2,_),(3,_),(4,_),(31,_),(32,_)]) (to:=[(2,_),(3,_)]) ?_;refine wf<|wf<|wf<|wf<|wS (pF rfl rfl) rfl<|wm ?_;refine wf<|wf<|wf<|wf<|wf<|wS (pF rfl rfl) rfl<|wa ?_;refine wN ?_;exact⟨false,(),h,sP⟩
    ·replace h:=iF hg6 h;refine wf<|wf<|wf<|wf<|wf<|wS (pF rfl rfl) rfl<|wm ?_;refine wf<|wf<|wy (tl:=[(2,_),(3,_),(4,_),(31,_),(33,_)]) (to:=[(2,_),(3,_)]) ?_;refine wf<|wf<|wf<|wS (pF rfl rfl) rfl<|wm ?_;refine wf<|wf<|wf<|wf<|wf<|wS (pF rfl rfl) rfl<|wa ?_;refine wN ?_;exact⟨false,(),h,sP⟩
   ·replace h:=iF hg5 h;refine wf<|wy (tl:=[(2,_),(3,_),(4,_),(17,_),(18,_)]) (to:=[(2,_),(3,_)]) ?_;refine wf<|wf<|wf<|wf<|wS (pF rfl rfl) rfl<|wm ?_;refine wf<|wf<|wf<|wf<|wf<|wS (pF rfl rfl) rfl<|wm ?_;refine wf<|wf<|wf<|wy (tl:=[(2,_),(3,_),(4,_),(31,_),(33,_),(34,_)]) (to:=[(2,_),(3,_)]) ?_;refine wf<|wf<|wS (pF rfl rfl) rfl<|wm ?_;refine wf<|wf<|wf<|wf<|wf<|wS (pF rfl rfl) rfl<|wa ?_;refine wN ?_;exact⟨false,(),h,sP⟩
  ·replace h:=iF hg4 h;refine wf<|wf<|wf<|wf<|wf<|wS (pF rfl rfl) rfl<|wm ?_;refine wf<|wf<|wy (tl:=[(2,_),(3,_),(4,_),(17,_),(19,_)]) (to:=[(2,_),(3,_)]) ?_;refine wf<|wf<|wf<|wS (pF rfl rfl) rfl<|wm ?_;refine wf<|wf<|wf<|wf<|wf<|wS (pF rfl rfl) rfl<|wm ?_;refine wf<|wf<|wf<|wf<|wy (tl:=[(2,_),(3,_),(4,_),(31,_),(33,_),(35,_)]) (to:=[(2,_),(3,_)]) ?_;refine wf<|wS (pF rfl rfl) rfl<|wm ?_;refine wf<|wf<|wf<|wf<|wf<|wS (pF rfl rfl) rfl<|wa ?_;refine wN ?_;exact⟨false,(),h,sP⟩
 ·rintro v3 _ h;refine wX ?_;replace h:_=r0:=h;subst h;exact⟨.inr rfl,_,.cons (.tmp rfl rfl)<|.nil,rfl⟩
end Go.Proofs
