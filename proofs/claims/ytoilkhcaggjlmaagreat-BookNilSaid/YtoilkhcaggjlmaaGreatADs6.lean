/- Side texts. -/
import Derived.Shelf.SlSortCmp.NoneTotal
import Derived.StillTactics
import Derived.RegionTactic
import Derived.Laws.BytesString
import Derived.Laws.IdiomStrings
import Derived.Test.YtoilkhcaggjlmaaGreatADs2
import Derived.Test.YtoilkhcaggjlmaaGreatADs3
import Derived.Test.YtoilkhcaggjlmaaGreatADs4
import Derived.Test.YtoilkhcaggjlmaaGreatADs5
set_option linter.unusedVariables false
set_option linter.unusedSimpArgs false
namespace Go.Proofs
set_option linter.unusedSimpArgs false
set_option linter.unusedVariables false
open Go.Shelf Go.RowKit Go.Lib Go.Sort Go.Ep
theorem yTa(a:Int)(W:World):Calls Tryz.prog 107 #[.int .u16 a] W fun e w'=>e=.returned (.bool false)/\w'=W:=by
 go_enter Tryz.func107,Tryz.ntmps107
 go_wp2
 go_ret
 exact⟨by simp,rfl⟩
theorem yUa(a b:Int)(W:World):Calls Tryz.prog 91 #[.int .u16 a,.int .u16 b] W fun e w'=>e=.returned (.int .i64 (Lib.compareInt a b))/\w'=W:=by
 unfold Lib.compareInt
 by_cases h1:a < b
 ·go_enter Tryz.func91,Tryz.ntmps91
  go_wp2_with (go_at_call 107;refine(yTa _ _).mono ?_;rintro e w' ⟨rfl,rfl⟩)
  go_ret
  exact⟨by simp[h1],rfl⟩
 ·by_cases h2:b < a
  ·go_enter Tryz.func91,Tryz.ntmps91
   go_wp2_with (go_at_call 107;refine(yTa _ _).mono ?_;rintro e w' ⟨rfl,rfl⟩)
   go_ret
   exact⟨by simp[h1,h2],rfl⟩
  ·go_enter Tryz.func91,Tryz.ntmps91
   go_wp2_with (go_at_call 107;refine(yTa _ _).mono ?_;rintro e w' ⟨rfl,rfl⟩)
   go_ret
   exact⟨by simp[h1,h2],rfl⟩
theorem yVa(a:Int)(W:World):Calls Tryz.prog 104 #[.int .u64 a] W fun e w'=>e=.returned (.bool false)/\w'=W:=by
 go_enter Tryz.func104,Tryz.ntmps104
 go_wp2
 go_ret
 exact⟨by simp,rfl⟩
theorem yWa(a b:Int)(W:World):Calls Tryz.prog 84 #[.int .u64 a,.int .u64 b] W fun e w'=>e=.returned (.int .i64 (Lib.compareInt a b))/\w'=W:=by
 unfold Lib.compareInt
 by_cases h1:a < b
 ·go_enter Tryz.func84,Tryz.ntmps84
  go_wp2_with (go_at_call 104;refine(yVa _ _).mono ?_;rintro e w' ⟨rfl,rfl⟩)
  go_ret
  exact⟨by simp[h1],rfl⟩
 ·by_cases h2:b < a
  ·go_enter Tryz.func84,Tryz.ntmps84
   go_wp2_with (go_at_call 104;refine(yVa _ _).mono ?_;rintro e w' ⟨rfl,rfl⟩)
   go_ret
   exact⟨by simp[h1,h2],rfl⟩
  ·go_enter Tryz.func84,Tryz.ntmps84
   go_wp2_with (go_at_call 104;refine(yVa _ _).mono ?_;rintro e w' ⟨rfl,rfl⟩)
   go_ret
   exact⟨by simp[h1,h2],rfl⟩
theorem yXa(W:World)(a b:Array Obj)(q:Nat):grow ((grow W a).drewN q) b=grow (W.drewN q) (a++b):=by
 show grow (grow (W.drewN q) a) b=_;rw[grow_grow]
def Va(a b c d:Int):Int:=if Lib.compareInt a c≠0 then Lib.compareInt a c else Lib.compareInt b d
theorem zVa(a b c d:Int)(W:World):Calls Tryz.prog 69 #[.agg #[.int .u16 a,.int .u64 b],.agg #[.int .u16 c,.int .u64 d]] W fun e w'=>e=.returned (.int .i64 (Va a b c d))/\∃ q os',w'=grow (W.drewN q) os':=by
 have c1:=fun W'=>yUa a c W'
 have c2:=fun W'=>yWa b d W'
 unfold Va
 generalize Lib.compareInt a c=r1 at c1 ⊢
 generalize Lib.compareInt b d=r2 at c2 ⊢
 by_cases h:r1=0
 ·subst h
  go_enter Tryz.func69,Tryz.ntmps69
  go_wp2_with (first | (go_at_call 91;refine(c1 _).mono ?_;rintro e w' ⟨rfl,rfl⟩) | (go_at_call 84;refine(c2 _).mono ?_;rintro e w' ⟨rfl,rfl⟩))
  go_ret
  exact⟨by simp,0,_,by rw[alloc_eq_grow,alloc_eq_grow,grow_grow];rfl⟩
 ·go_enter Tryz.func69,Tryz.ntmps69
  go_wp2_with (first | (go_at_call 91;refine(c1 _).mono ?_;rintro e w' ⟨rfl,rfl⟩) | (go_at_call 84;refine(c2 _).mono ?_;rintro e w' ⟨rfl,rfl⟩))
  go_ret
  exact⟨by simp[h],0,_,by rw[alloc_eq_grow,alloc_eq_grow,grow_grow];rfl⟩
structure RawTEvent where
 dot_dev_:Int
 dot_n_:Int
 c2:Value
 h2:c2.oneCell'=true
 c3:Value
 h3:c3.oneCell'=true
 c4:Value
 h4:c4.oneCell'=true
 c5:Value
 h5:c5.oneCell'=true
 c6:Value
 h6:c6.oneCell'=true
def RawTEvent.v(r:RawTEvent):List Value:=[.int .u16 r.dot_dev_,.int .u64 r.dot_n_,r.c2,r.c3,r.c4,r.c5,r.c6]
theorem RawTEvent.v1(r:RawTEvent):∀ u∈r.v,u.oneCell'=true:=by
 intro u hu;simp only[RawTEvent.v,List.mem_cons,List.not_mem_nil,or_false] at hu;rcases hu with rfl | rfl | rfl | rfl | rfl | rfl | rfl
 ·rfl
 ·rfl
 ·exact r.h2
 ·exact r.h3
 ·exact r.h4
 ·exact r.h5
 ·exact r.h6
def RawTEvent.R(x:EV)(r:RawTEvent):Prop:=r.dot_dev_=x.dot.dev/\r.dot_n_=x.dot.n
theorem RawTEvent.raw(w:World)(S:Nat->Prop)(x:EV)(us:List Value)(hl:us.length=7)(h:∀ (j:Nat) (d:DV) (u:Value),(EV.e x)[j]?=some d->us[j]?=some u->DRd w S d u):∃ r:RawTEvent,r.v=us/\RawTEvent.R x r:=by
 match us,hl with
 | [u0,u1,u2,u3,u4,u5,u6],_=>
  refine⟨⟨x.dot.dev,x.dot.n,u2,(h 2 _ u2 rfl rfl).one,u3,(h 3 _ u3 rfl rfl).one,u4,(h 4 _ u4 rfl rfl).one,u5,(h 5 _ u5 rfl rfl).one,u6,(h 6 _ u6 rfl rfl).one⟩,?_,⟨rfl,rfl⟩⟩;have e0:=h 0 _ u0 rfl rfl
  cases e0
  have e1:=h 1 _ u1 rfl rfl
  cases e1
  rfl
def cf67(x y:RawTEvent):Int:=Va x.dot_dev_ x.dot_n_ y.dot_dev_ y.dot_n_
theorem callcf67(x y:RawTEvent)(W:World):Calls Tryz.prog 68 #[.agg #[.int .u16 x.dot_dev_,.int .u64 x.dot_n_,x.c2,x.c3,x.c4,x.c5,x.c6],.agg #[.int .u16 y.dot_dev_,.int .u64 y.dot_n_,y.c2,y.c3,y.c4,y.c5,y.c6]] W fun e w'=>e=.returned (.int .i64 (cf67 x y))/\∃ q os',w'=grow (W.drewN q) os':=by
 have c1:=fun W'=>zVa x.dot_dev_ x.dot_n_ y.dot_dev_ y.dot_n_ W'
 unfold cf67
 generalize Va x.dot_dev_ x.dot_n_ y.dot_dev_ y.dot_n_=r1 at c1 ⊢
 go_enter Tryz.func68,Tryz.ntmps68
 go_wp2_with (go_at_call 69;refine(c1 _).mono ?_;rintro e w' ⟨rfl,q,os',rfl⟩)
 go_ret
 exact⟨rfl,q,_,by rw[alloc_eq_grow,alloc_eq_grow,grow_grow,yXa]⟩
theorem Qe(x y:RawTEvent):ltOf cf67 x y=(fun x y:RawTEvent=>decide (x.dot_dev_ < y.dot_dev_)||(decide (x.dot_dev_=y.dot_dev_)&&decide (x.dot_n_ < y.dot_n_))) x y:=by
 unfold ltOf cf67 Va Lib.compareInt ;rw[Bool.eq_iff_iff];simp only[decide_eq_true_eq,Bool.or_eq_true,Bool.and_eq_true]
 split <;> (repeat' split) <;> omega
theorem yYa : SWO (ltOf cf67) where
 irrefl x:=by rw[Qe];simp[]
 trans x y z h1 h2:=by rw[Qe] at *;simp[] at *;omega
 ntrans x y z h1 h2:=by rw[Qe] at *;simp[] at *;omega
instance inhcf67 : Inhabited RawTEvent:=⟨⟨0,0,.int .u64 0,rfl,.int .u64 0,rfl,.int .u64 0,rfl,.int .u64 0,rfl,.int .u64 0,rfl⟩⟩
theorem layscf67(blk off size:Nat)(w:World):CmpLays Tryz.prog 68 #[] RawTEvent.v 7 cf67 blk off size w:=fun _ _ _ _ x y=>callcf67 x y _
set_option maxHeartbeats 2000000 in
set_option maxRecDepth 100000 in
theorem yZa(blk off cap:Nat)(d:Array RawTEvent)(w:World)(hH:HoldsK RawTEvent.v 7 w blk off d)(hblk:blk < w.heap.size)(hsz:d.size < 4611686018427387904) :
  Calls Tryz.prog 67 #[.slice (some ⟨blk,off,none⟩) d.size cap,.func (.func 68) #[] #[]] w fun e w'=>e=.returned (.tuple #[])/\∃ n os,w'=sortWorldK RawTEvent.v 7 w blk off n (pdq (ltOf cf67) d 0 d.size (Lib.bitLen d.size) true true) os:=by
 have eg:∀ args w,(callFunc 68 args).run Tryz.prog w=.ok (.enter 68 args) w:=Tryz.call68;have e14:=Tryz.call92;have e15:=Tryz.call93;have hlim:Lib.bitLen d.size < 4611686018427387904:=Nat.lt_of_le_of_lt (Lib.bitLen_le d.size 62 (by omega) (by omega)) (by omega);have hp:=AnyQ.pdqsortCmpFunc_all Tryz.pdq92 7 Tryz.isAgg28 Tryz.sizeOf28 RawTEvent.v cf67 68 #[] yYa blk off cap d w eg (layscf67 blk off d.size w) ⟨fun _=>rfl,RawTEvent.v1,hH,hblk⟩ (d.size+1) 0 d.size (Lib.bitLen d.size) d w (by omega) rfl (SWK.start hH) (Nat.zero_le _) (Nat.le_refl _) hsz hlim (Or.inl rfl)
 change Calls Tryz.prog 92 _ _ _ at hp
 have hl:Calls Tryz.prog 93 #[.int .u64 (d.size:Int)] w fun e w'=>e=.returned (.int .i64 (Lib.bitLen d.size:Nat))/\w'=w:=by
  have h:=Any.bits_Len (SlLaysF0.n15.bits Tryz.bits93) (d.size:Int) w (by omega) (by omega)
  rwa [Int.toNat_natCast] at h
 have wr:IntKind.u64.wrap (d.size:Int)=d.size:=by simp[IntKind.wrap,IntKind.bits,IntKind.signed];omega
 clear hH
 go_enter Tryz.func67,Tryz.ntmps67
 go_wp2_with (first | (go_at_call 93;refine hl.mono ?_;rintro e w' ⟨rfl,rfl⟩) | (go_at_call 92;refine hp.mono ?_;rintro e w' ⟨rfl,n,os,rfl⟩))
 go_end0
 exact⟨rfl,n,os,rfl⟩
theorem zWa(w:World):Calls Tryz.prog 67 #[.slice none 0 0,.func (.func 68) #[] #[]] w fun e w'=>e=.returned (.tuple #[])/\Go.RowKit.Below w.heap.size w w':=by
 have e14:=Tryz.call92;have e15:=Tryz.call93;have hp:=fun lim W=>AnyF.pdqsortCmpFunc_none Tryz.pdq92 none 0 lim (.func (.func 68) #[] #[]) W
 have hl:∀ W,Calls Tryz.prog 93 #[.int .u64 0] W fun e w'=>e=.returned (.int .i64 (Lib.bitLen 0:Nat))/\w'=W:=fun W=>by
  have h:=Any.bits_Len (SlLaysF0.n15.bits Tryz.bits93) 0 W (by omega) (by omega);exact h
 go_enter Tryz.func67,Tryz.ntmps67
 go_wp2_with (first | (go_at_call 93;refine(hl _).mono ?_;rintro e w' ⟨rfl,rfl⟩) | (go_at_call 92;refine(hp _ _).mono ?_;rintro e w' ⟨rfl,rfl⟩))
 go_end0
 exact⟨rfl,Go.RowKit.Below.refl _ _⟩
theorem jK : SortLaw Tryz.prog 67 68 7 RawTEvent.v (fun x y:RawTEvent=>decide (x.dot_dev_ < y.dot_dev_)||(decide (x.dot_dev_=y.dot_dev_)&&decide (x.dot_n_ < y.dot_n_))):=SortLaw.of yYa Qe (fun _=>rfl) zWa (fun blk off cap d w hH hblk hsz=>yZa blk off cap d w hH hblk hsz)
theorem rlt67(x y:EV)(r r':RawTEvent)(h1:RawTEvent.R x r)(h2:RawTEvent.R y r'):((fun x y:RawTEvent=>decide (x.dot_dev_ < y.dot_dev_)||(decide (x.dot_dev_=y.dot_dev_)&&decide (x.dot_n_ < y.dot_n_)))) r r'=uX x y:=by simp only[RawTEvent.R] at h1 h2;simp[h1,h2,uX]
def cf87(x y:DT):Int:=if Lib.compareInt x.dev y.dev≠0 then Lib.compareInt x.dev y.dev else Lib.compareInt x.n y.n
theorem callcf87(x y:DT)(W:World):Calls Tryz.prog 69 #[.agg #[.int .u16 x.dev,.int .u64 x.n],.agg #[.int .u16 y.dev,.int .u64 y.n]] W fun e w'=>e=.returned (.int .i64 (cf87 x y))/\∃ q os',w'=grow (W.drewN q) os':=by
 have c1:=fun W'=>yUa x.dev y.dev W'
 have c2:=fun W'=>yWa x.n y.n W'
 unfold cf87
 generalize Lib.compareInt x.dev y.dev=r1 at c1 ⊢
 generalize Lib.compareInt x.n y.n=r2 at c2 ⊢
 by_cases h:r1=0
 ·subst h
  go_enter Tryz.func69,Tryz.ntmps69
  go_wp2_with (first | (go_at_call 91;refine(c1 _).mono ?_;rintro e w' ⟨rfl,rfl⟩) | (go_at_call 84;refine(c2 _).mono ?_;rintro e w' ⟨rfl,rfl⟩))
  go_ret
  exact⟨by simp,0,_,by rw[alloc_eq_grow,alloc_eq_grow,grow_grow];rfl⟩
 ·go_enter Tryz.func69,Tryz.ntmps69
  go_wp2_with (first | (go_at_call 91;refine(c1 _).mono ?_;rintro e w' ⟨rfl,rfl⟩) | (go_at_call 84;refine(c2 _).mono ?_;rintro e w' ⟨rfl,rfl⟩))
  go_ret
  exact⟨by simp[h],0,_,by rw[alloc_eq_grow,alloc_eq_grow,grow_grow];rfl⟩
theorem Qf(x y:DT):ltOf cf87 x y=zQ x y:=by
 unfold ltOf cf87 Lib.compareInt zQ;rw[Bool.eq_iff_iff];simp only[decide_eq_true_eq,Bool.or_eq_true,Bool.and_eq_true]
 split <;> (repeat' split) <;> omega
theorem yaa : SWO (ltOf cf87) where
 irrefl x:=by rw[Qf];simp[zQ]
 trans x y z h1 h2:=by rw[Qf] at *;simp[zQ] at *;omega
 ntrans x y z h1 h2:=by rw[Qf] at *;simp[zQ] at *;omega
instance inhcf87 : Inhabited DT:=⟨⟨0,0⟩⟩
theorem layscf87(blk off size:Nat)(w:World):CmpLays Tryz.prog 69 #[] DT.v 2 cf87 blk off size w:=fun _ _ _ _ x y=>callcf87 x y _
set_option maxHeartbeats 2000000 in
set_option maxRecDepth 100000 in
theorem yba(blk off cap:Nat)(d:Array DT)(w:World)(hH:HoldsK DT.v 2 w blk off d)(hblk:blk < w.heap.size)(hsz:d.size < 4611686018427387904) :
  Calls Tryz.prog 87 #[.slice (some ⟨blk,off,none⟩) d.size cap,.func (.func 69) #[] #[]] w fun e w'=>e=.returned (.tuple #[])/\∃ n os,w'=sortWorldK DT.v 2 w blk off n (pdq (ltOf cf87) d 0 d.size (Lib.bitLen d.size) true true) os:=by
 have eg:∀ args w,(callFunc 69 args).run Tryz.prog w=.ok (.enter 69 args) w:=Tryz.call69;have e14:=Tryz.call105;have e15:=Tryz.call93;have hlim:Lib.bitLen d.size < 4611686018427387904:=Nat.lt_of_le_of_lt (Lib.bitLen_le d.size 62 (by omega) (by omega)) (by omega);have hp:=AnyQ.pdqsortCmpFunc_all Tryz.pdq105 2 Tryz.isAgg25 Tryz.sizeOf25 DT.v cf87 69 #[] yaa blk off cap d w eg (layscf87 blk off d.size w) ⟨fun _=>rfl,DT.v1,hH,hblk⟩ (d.size+1) 0 d.size (Lib.bitLen d.size) d w (by omega) rfl (SWK.start hH) (Nat.zero_le _) (Nat.le_refl _) hsz hlim (Or.inl rfl)
 change Calls Tryz.prog 105 _ _ _ at hp
 have hl:Calls Tryz.prog 93 #[.int .u64 (d.size:Int)] w fun e w'=>e=.returned (.int .i64 (Lib.bitLen d.size:Nat))/\w'=w:=by
  have h:=Any.bits_Len (SlLaysF0.n15.bits Tryz.bits93) (d.size:Int) w (by omega) (by omega)
  rwa [Int.toNat_natCast] at h
 have wr:IntKind.u64.wrap (d.size:Int)=d.size:=by simp[IntKind.wrap,IntKind.bits,IntKind.signed];omega
 clear hH
 go_enter Tryz.func87,Tryz.ntmps87
 go_wp2_with (first | (go_at_call 93;refine hl.mono ?_;rintro e w' ⟨rfl,rfl⟩) | (go_at_call 105;refine hp.mono ?_;rintro e w' ⟨rfl,n,os,rfl⟩))
 go_end0
 exact⟨rfl,n,os,rfl⟩
theorem zXa(w:World):Calls Tryz.prog 87 #[.slice none 0 0,.func (.func 69) #[] #[]] w fun e w'=>e=.returned (.tuple #[])/\Go.RowKit.Below w.heap.size w w':=by
 have e14:=Tryz.call105;have e15:=Tryz.call93;have hp:=fun lim W=>AnyF.pdqsortCmpFunc_none Tryz.pdq105 none 0 lim (.func (.func 69) #[] #[]) W
 have hl:∀ W,Calls Tryz.prog 93 #[.int .u64 0] W fun e w'=>e=.returned (.int .i64 (Lib.bitLen 0:Nat))/\w'=W:=fun W=>by
  have h:=Any.bits_Len (SlLaysF0.n15.bits Tryz.bits93) 0 W (by omega) (by omega);exact h
 go_enter Tryz.func87,Tryz.ntmps87
 go_wp2_with (first | (go_at_call 93;refine(hl _).mono ?_;rintro e w' ⟨rfl,rfl⟩) | (go_at_call 105;refine(hp _ _).mono ?_;rintro e w' ⟨rfl,rfl⟩))
 go_end0
 exact⟨rfl,Go.RowKit.Below.refl _ _⟩
theorem srt87_69 : SortLaw Tryz.prog 87 69 2 DT.v zQ:=SortLaw.of yaa Qf (fun _=>rfl) zXa (fun blk off cap d w hH hblk hsz=>yba blk off cap d w hH hblk hsz)
structure RawTPart where
 dev_:Int
 c1:Value
 h1:c1.oneCell'=true
def RawTPart.v(r:RawTPart):List Value:=[.int .u16 r.dev_,r.c1]
theorem RawTPart.v1(r:RawTPart):∀ u∈r.v,u.oneCell'=true:=by
 intro u hu;simp only[RawTPart.v,List.mem_cons,List.not_mem_nil,or_false] at hu;rcases hu with rfl | rfl
 ·rfl
 ·exact r.h1
def RawTPart.R(x:PT)(r:RawTPart):Prop:=r.dev_=x.dev
theorem RawTPart.raw(w:World)(S:Nat->Prop)(x:PT)(us:List Value)(hl:us.length=2)(h:∀ (j:Nat) (d:DV) (u:Value),(PT.e x)[j]?=some d->us[j]?=some u->DRd w S d u):∃ r:RawTPart,r.v=us/\RawTPart.R x r:=by
 match us,hl with
 | [u0,u1],_=>
  refine⟨⟨x.dev,u1,(h 1 _ u1 rfl rfl).one⟩,?_,rfl⟩;have e0:=h 0 _ u0 rfl rfl
  cases e0
  rfl
def cf89(x y:RawTPart):Int:=Lib.compareInt x.dev_ y.dev_
theorem callcf89(x y:RawTPart)(W:World):Calls Tryz.prog 90 #[.agg #[.int .u16 x.dev_,x.c1],.agg #[.int .u16 y.dev_,y.c1]] W fun e w'=>e=.returned (.int .i64 (cf89 x y))/\∃ q os',w'=grow (W.drewN q) os':=by
 have c1:=fun W'=>yUa x.dev_ y.dev_ W'
 unfold cf89
 generalize Lib.compareInt x.dev_ y.dev_=r1 at c1 ⊢
 go_enter Tryz.func90,Tryz.ntmps90
 go_wp2_with (go_at_call 91;refine(c1 _).mono ?_;rintro e w' ⟨rfl,rfl⟩)
 go_ret
 exact⟨rfl,0,_,by rw[alloc_eq_grow,alloc_eq_grow,grow_grow];rfl⟩
theorem Qg(x y:RawTPart):ltOf cf89 x y=(fun x y:RawTPart=>decide (x.dev_ < y.dev_)) x y:=by
 unfold ltOf cf89 Lib.compareInt ;rw[Bool.eq_iff_iff];simp only[decide_eq_true_eq,Bool.or_eq_true,Bool.and_eq_true]
 split <;> (repeat' split) <;> omega
theorem yca : SWO (ltOf cf89) where
 irrefl x:=by rw[Qg];simp[]
 trans x y z h1 h2:=by rw[Qg] at *;simp[] at *;omega
 ntrans x y z h1 h2:=by rw[Qg] at *;simp[] at *;omega
instance inhcf89 : Inhabited RawTPart:=⟨⟨0,.int .u64 0,rfl⟩⟩
theorem layscf89(blk off size:Nat)(w:World):CmpLays Tryz.prog 90 #[] RawTPart.v 2 cf89 blk off size w:=fun _ _ _ _ x y=>callcf89 x y _
set_option maxHeartbeats 2000000 in
set_option maxRecDepth 100000 in
theorem yda(blk off cap:Nat)(d:Array RawTPart)(w:World)(hH:HoldsK RawTPart.v 2 w blk off d)(hblk:blk < w.heap.size)(hsz:d.size < 4611686018427387904) :
  Calls Tryz.prog 89 #[.slice (some ⟨blk,off,none⟩) d.size cap,.func (.func 90) #[] #[]] w fun e w'=>e=.returned (.tuple #[])/\∃ n os,w'=sortWorldK RawTPart.v 2 w blk off n (pdq (ltOf cf89) d 0 d.size (Lib.bitLen d.size) true true) os:=by
 have eg:∀ args w,(callFunc 90 args).run Tryz.prog w=.ok (.enter 90 args) w:=Tryz.call90;have e14:=Tryz.call106;have e15:=Tryz.call93;have hlim:Lib.bitLen d.size < 4611686018427387904:=Nat.lt_of_le_of_lt (Lib.bitLen_le d.size 62 (by omega) (by omega)) (by omega);have hp:=AnyQ.pdqsortCmpFunc_all Tryz.pdq106 2 Tryz.isAgg56 Tryz.sizeOf56 RawTPart.v cf89 90 #[] yca blk off cap d w eg (layscf89 blk off d.size w) ⟨fun _=>rfl,RawTPart.v1,hH,hblk⟩ (d.size+1) 0 d.size (Lib.bitLen d.size) d w (by omega) rfl (SWK.start hH) (Nat.zero_le _) (Nat.le_refl _) hsz hlim (Or.inl rfl)
 change Calls Tryz.prog 106 _ _ _ at hp
 have hl:Calls Tryz.prog 93 #[.int .u64 (d.size:Int)] w fun e w'=>e=.returned (.int .i64 (Lib.bitLen d.size:Nat))/\w'=w:=by
  have h:=Any.bits_Len (SlLaysF0.n15.bits Tryz.bits93) (d.size:Int) w (by omega) (by omega)
  rwa [Int.toNat_natCast] at h
 have wr:IntKind.u64.wrap (d.size:Int)=d.size:=by simp[IntKind.wrap,IntKind.bits,IntKind.signed];omega
 clear hH
 go_enter Tryz.func89,Tryz.ntmps89
 go_wp2_with (first | (go_at_call 93;refine hl.mono ?_;rintro e w' ⟨rfl,rfl⟩) | (go_at_call 106;refine hp.mono ?_;rintro e w' ⟨rfl,n,os,rfl⟩))
 go_end0
 exact⟨rfl,n,os,rfl⟩
theorem zYa(w:World):Calls Tryz.prog 89 #[.slice none 0 0,.func (.func 90) #[] #[]] w fun e w'=>e=.returned (.tuple #[])/\Go.RowKit.Below w.heap.size w w':=by
 have e14:=Tryz.call106;have e15:=Tryz.call93;have hp:=fun lim W=>AnyF.pdqsortCmpFunc_none Tryz.pdq106 none 0 lim (.func (.func 90) #[] #[]) W
 have hl:∀ W,Calls Tryz.prog 93 #[.int .u64 0] W fun e w'=>e=.returned (.int .i64 (Lib.bitLen 0:Nat))/\w'=W:=fun W=>by
  have h:=Any.bits_Len (SlLaysF0.n15.bits Tryz.bits93) 0 W (by omega) (by omega);exact h
 go_enter Tryz.func89,Tryz.ntmps89
 go_wp2_with (first | (go_at_call 93;refine(hl _).mono ?_;rintro e w' ⟨rfl,rfl⟩) | (go_at_call 106;refine(hp _ _).mono ?_;rintro e w' ⟨rfl,rfl⟩))
 go_end0
 exact⟨rfl,Go.RowKit.Below.refl _ _⟩
theorem srt89_90 : SortLaw Tryz.prog 89 90 2 RawTPart.v (fun x y:RawTPart=>decide (x.dev_ < y.dev_)):=SortLaw.of yca Qg (fun _=>rfl) zYa (fun blk off cap d w hH hblk hsz=>yda blk off cap d w hH hblk hsz)
theorem rlt89(x y:PT)(r r':RawTPart)(h1:RawTPart.R x r)(h2:RawTPart.R y r'):((fun x y:RawTPart=>decide (x.dev_ < y.dev_))) r r'=UY x y:=by simp only[RawTPart.R] at h1 h2;simp[h1,h2,UY]
def JX(x y:RN):Int:=Lib.compareInt x.lo y.lo
theorem yea(x y:RN)(W:World):Calls Tryz.prog 103 #[.agg #[.int .u64 x.lo,.int .u64 x.hi],.agg #[.int .u64 y.lo,.int .u64 y.hi]] W fun e w'=>e=.returned (.int .i64 (JX x y))/\∃ q os',w'=grow (W.drewN q) os':=by
 have c1:=fun W'=>yWa x.lo y.lo W'
 unfold JX
 generalize Lib.compareInt x.lo y.lo=r1 at c1 ⊢
 go_enter Tryz.func103,Tryz.ntmps103
 go_wp2_with (go_at_call 84;refine(c1 _).mono ?_;rintro e w' ⟨rfl,rfl⟩)
 go_ret
 exact⟨rfl,0,_,by rw[alloc_eq_grow,alloc_eq_grow,grow_grow];rfl⟩
theorem jL(x y:RN):ltOf JX x y=UH x y:=by
 unfold ltOf JX Lib.compareInt UH;rw[Bool.eq_iff_iff];simp only[decide_eq_true_eq,Bool.or_eq_true,Bool.and_eq_true]
 split <;> (repeat' split) <;> omega
theorem Qh : SWO (ltOf JX) where
 irrefl x:=by rw[jL];simp[UH]
 trans x y z h1 h2:=by rw[jL] at *;simp[UH] at *;omega
 ntrans x y z h1 h2:=by rw[jL] at *;simp[UH] at *;omega
instance inhcf102 : Inhabited RN:=⟨⟨0,0⟩⟩
theorem yfa(blk off size:Nat)(w:World):CmpLays Tryz.prog 103 #[] RN.v 2 JX blk off size w:=fun _ _ _ _ x y=>yea x y _
set_option maxHeartbeats 2000000 in
set_option maxRecDepth 100000 in
theorem zZa(blk off cap:Nat)(d:Array RN)(w:World)(hH:HoldsK RN.v 2 w blk off d)(hblk:blk < w.heap.size)(hsz:d.size < 4611686018427387904) :
  Calls Tryz.prog 102 #[.slice (some ⟨blk,off,none⟩) d.size cap,.func (.func 103) #[] #[]] w fun e w'=>e=.returned (.tuple #[])/\∃ n os,w'=sortWorldK RN.v 2 w blk off n (pdq (ltOf JX) d 0 d.size (Lib.bitLen d.size) true true) os:=by
 have eg:∀ args w,(callFunc 103 args).run Tryz.prog w=.ok (.enter 103 args) w:=Tryz.call103;have e14:=Tryz.call121;have e15:=Tryz.call93;have hlim:Lib.bitLen d.size < 4611686018427387904:=Nat.lt_of_le_of_lt (Lib.bitLen_le d.size 62 (by omega) (by omega)) (by omega);have hp:=AnyQ.pdqsortCmpFunc_all Tryz.pdq121 2 Tryz.isAgg80 Tryz.sizeOf80 RN.v JX 103 #[] Qh blk off cap d w eg (yfa blk off d.size w) ⟨fun _=>rfl,RN.v1,hH,hblk⟩ (d.size+1) 0 d.size (Lib.bitLen d.size) d w (by omega) rfl (SWK.start hH) (Nat.zero_le _) (Nat.le_refl _) hsz hlim (Or.inl rfl)
 change Calls Tryz.prog 121 _ _ _ at hp
 have hl:Calls Tryz.prog 93 #[.int .u64 (d.size:Int)] w fun e w'=>e=.returned (.int .i64 (Lib.bitLen d.size:Nat))/\w'=w:=by
  have h:=Any.bits_Len (SlLaysF0.n15.bits Tryz.bits93) (d.size:Int) w (by omega) (by omega)
  rwa [Int.toNat_natCast] at h
 have wr:IntKind.u64.wrap (d.size:Int)=d.size:=by simp[IntKind.wrap,IntKind.bits,IntKind.signed];omega
 clear hH
 go_enter Tryz.func102,Tryz.ntmps102
 go_wp2_with (first | (go_at_call 93;refine hl.mono ?_;rintro e w' ⟨rfl,rfl⟩) | (go_at_call 121;refine hp.mono ?_;rintro e w' ⟨rfl,n,os,rfl⟩))
 go_end0
 exact⟨rfl,n,os,rfl⟩
theorem qW(w:World):Calls Tryz.prog 102 #[.slice none 0 0,.func (.func 103) #[] #[]] w fun e w'=>e=.returned (.tuple #[])/\Go.RowKit.Below w.heap.size w w':=by
 have e14:=Tryz.call121;have e15:=Tryz.call93;have hp:=fun lim W=>AnyF.pdqsortCmpFunc_none Tryz.pdq121 none 0 lim (.func (.func 103) #[] #[]) W
 have hl:∀ W,Calls Tryz.prog 93 #[.int .u64 0] W fun e w'=>e=.returned (.int .i64 (Lib.bitLen 0:Nat))/\w'=W:=fun W=>by
  have h:=Any.bits_Len (SlLaysF0.n15.bits Tryz.bits93) 0 W (by omega) (by omega);exact h
 go_enter Tryz.func102,Tryz.ntmps102
 go_wp2_with (first | (go_at_call 93;refine(hl _).mono ?_;rintro e w' ⟨rfl,rfl⟩) | (go_at_call 121;refine(hp _ _).mono ?_;rintro e w' ⟨rfl,rfl⟩))
 go_end0
 exact⟨rfl,Go.RowKit.Below.refl _ _⟩
theorem zaa : SortLaw Tryz.prog 102 103 2 RN.v UH:=SortLaw.of Qh jL (fun _=>rfl) qW (fun blk off cap d w hH hblk hsz=>zZa blk off cap d w hH hblk hsz)
end Go.Proofs
namespace Go.Ep
open Go.RowKit
def RowAt(w:World)(e:TypeId)(k:Nat)(l:List (List DV)):Option (Nat×Nat)->Value->Prop
 | none,v=>l=[]/\v=.slice none 0 0
 | some (b,cap),v=>v=.slice (some ⟨b,0,none⟩) l.length cap/\∃ cur:List Value,w.heap[b]?=some (.cells cur.toArray e (0,0))/\l.length<=cap/\cap<=maxLen/\cur.length=cap*k/\(∀ (i:Nat) (cs:List DV),l[i]?=some cs->cs.length=k) /\
   ∀ (i:Nat) (cs:List DV) (j:Nat) (x:DV),l[i]?=some cs->cs[j]?=some x->∃ u,cur[i*k+j]?=some u/\x=.v u/\u.oneCell'=true
def Qi(l:List (List DV)):Prop:=∀ cs∈l,∀ x∈cs,∃ u,x=DV.v u
abbrev Ye:=List (List Int×List (List DV))
def jM(R:Ye):Mp:=R.map fun p=>(p.1,[DV.sl p.2])
def Dt(ctx:Ctx)(mb:Nat)(blk:Nat->Option (Nat×Nat))(b:Nat):Prop:=(ctx.S b\/ctx.w0.heap.size<=b)/\b≠mb/\∀ i c,blk i≠some (b,c)
structure RelT(ctx:Ctx)(ks:List IntKind)(e:TypeId)(k mid n:Nat)(sl:List (Nat×PV))(R:Ye)(a:Act)(w:World)(g:zR)(mb:Nat)(blk:Nat->Option (Nat×Nat))(es:Array MapEntry)(ck:Nat):Prop where
 defers:a.defers=[]
 size:a.tmps.size=n
 slots:∀ i p,(PState.mk n sl []).at i=some p->Rd w g (Dt ctx mb blk) p (a.tmps.getD i undef)
 gm:∃ q,g mid=some (mb,q)
 lt:mb < w.heap.size/\(ctx.w0.heap.size<=mb\/ctx.K mb)
 hh:w.heap[mb]?=some (.map es ck)
 sz:es.size=R.length
 below:∀ b∈es.toList.map (·.born),b < ck
 nodup:(es.toList.map (·.born)).Nodup
 ent:∀ (i:Nat) (ns:List Int) (l:List (List DV)),R[i]?=some (ns,l)->∃ x,es[i]?=some x/\x.key=ve ks ns/\ns.length=ks.length/\RowAt w e k l (blk i) x.val
 inj:∀ i j b c c',blk i=some (b,c)->blk j=some (b,c')->i=j
 own:∀ i b c,blk i=some (b,c)->b < w.heap.size/\(ctx.w0.heap.size<=b\/ctx.K b)/\b≠mb
 out:∀ i,R.length<=i->blk i=none
 os:w.os=ctx.w0.os
 tape:w.tape=ctx.w0.tape
 output:w.output=ctx.w0.output
 grows:ctx.w0.heap.size<=w.heap.size
 keep:∀ q,q < ctx.w0.heap.size->¬ ctx.K q->w.heap[q]?=ctx.w0.heap[q]?
theorem at_mem{n:Nat}{sl:List (Nat×PV)}{o:List (Nat×Ob)}{i:Nat}{p:PV}(h:(PState.mk n sl o).at i=some p):(i,p)∈sl:=Zz (xI h)
theorem rd_row{w:World}{g:zR}{S:Nat->Prop}{id n:Nat}{u:Value}(h:Rd w g S (.row id n) u):(∃ b c,g id=some (b,c)/\u=.slice (some ⟨b,0,none⟩) n c)\/(g id=none/\n=0/\u=.slice none 0 0):=by
 cases h with
 | row _ _ b c h=>exact .inl ⟨b,c,h,rfl⟩
 | rowNil _ h=>exact .inr ⟨h,rfl,rfl⟩
section
variable{ctx:Ctx}{ks:List IntKind}{e:TypeId}{k mid n:Nat}{sl:List (Nat×PV)}{a:Act}{w:World}{g:zR}
theorem RelT.start{bs0:List Nat}{ck0:Nat}(h:RelG ctx g ⟨n,sl,[(mid,.map ks false [] bs0 ck0)]⟩ a w):∃ mb es ck,RelT ctx ks e k mid n sl [] a w g mb (fun _=>none) es ck:=by
 have hl:look [(mid,Ob.map ks false [] bs0 ck0)] mid=some (.map ks false [] bs0 ck0):=by simp[look]
 cases h.objs mid _ hl with
 | map _ _ _ _ _ blk q es hg hh hm=>
  refine⟨blk,es,ck0,h.defers,h.size,fun i p hp=>?_,⟨q,hg⟩,h.own mid _ blk q hl hg,hh,hm.size,by rw[<- hm.stamps];exact hm.below,by rw[<- hm.stamps];exact hm.nodup,(fun i ns l hi=>by simp at hi),(fun i j b c c' hi=>by cases hi),(fun i b c hi=>by cases hi),fun _ _=>rfl,h.os,h.tape,h.output,h.grows,h.keep⟩;refine(h.slots i p hp).keep ⟨Nat.le_refl _,fun _ _ _=>rfl⟩ (fun b hb _=>⟨hb.1,fun eb=>?_,fun i c hc=>by cases hc⟩) (fun _ _=>rfl);subst eb;exact hb.2 mid _ q hl hg
theorem cell_cur{b:Nat}{cur:List Value}(hh:w.heap[b]?=some (.cells cur.toArray e (0,0)))(o:Nat):w.cell? ⟨b,o,none⟩=cur[o]?:=zP hh o
theorem RelT.done{R:Ye}{mb:Nat}{blk:Nat->Option (Nat×Nat)}{es:Array MapEntry}{ck:Nat}(hK:∀ b,ctx.K b->ctx.S b)(h:RelT ctx ks e k mid n sl R a w g mb blk es ck):RelG ctx g ⟨n,sl,[(mid,.map ks false (jM R) (es.toList.map (·.born)) ck)]⟩ a w:=by
 obtain⟨q,hg⟩:=h.gm;have hlk:∀ id o,look [(mid,Ob.map ks false (jM R) (es.toList.map (·.born)) ck)] id=some o->id=mid:=fun id o ho=>by
  simp only[look] at ho
  split at ho
  ·assumption
  ·cases ho
 have hfree:∀ b,(ctx.S b\/ctx.w0.heap.size<=b)->b≠mb->zZ ctx g [(mid,Ob.map ks false (jM R) (es.toList.map (·.born)) ck)] b:=fun b h1 h2=>⟨h1,fun id o m ho hgi=>by
  rw[hlk id o ho,hg] at hgi;cases hgi;exact h2 rfl⟩
 refine⟨h.defers,h.size,fun i p hp=>?_,fun id o ho=>?_,fun i j oi oj b m m' hi hj _ _=>by rw[hlk i oi hi,hlk j oj hj],fun id o b m ho hgi=>?_,h.os,h.tape,h.output,h.grows,h.keep⟩
 ·exact(h.slots i p hp).keep ⟨Nat.le_refl _,fun _ _ _=>rfl⟩ (fun b hb _=>hfree b hb.1 hb.2.1) (fun _ _=>rfl)
 ·have hid:=hlk id o ho;subst hid;simp only[look,if_true] at ho
  cases ho
  refine .map ks false _ _ ck mb q es hg h.hh ⟨by simp[jM,h.sz],rfl,h.below,h.nodup,fun i ns cs hi=>?_⟩;unfold jM at hi;rw[List.getElem?_map] at hi
  cases hR:R[i]? with
  | none=>rw[hR] at hi;cases hi
  | some r=>
   obtain⟨ns',l⟩:=r;rw[hR] at hi;simp only[Option.map_some,Option.some.injEq,Prod.mk.injEq] at hi;obtain⟨rfl,rfl⟩:=hi;obtain⟨x,h1,h2,h3,h4⟩:=h.ent i _ l hR;have hd:DRd w (zZ ctx g [(id,Ob.map ks false (jM R) (es.toList.map (·.born)) ck)]) (.sl l) x.val:=by
    cases hb:blk i with
    | none=>
     rw[hb] at h4;obtain⟨rfl,hv⟩:=h4;rw[hv];exact .nil none 0 (Nat.zero_le _) (fun _=>rfl)
    | some bc=>
     obtain⟨b,cap⟩:=bc;rw[hb] at h4;obtain⟨hv,cur,hc,hlc,hcap,hcl,hkk,hr⟩:=h4;rw[hv];obtain⟨o1,o2,o3⟩:=h.own i b cap hb;refine .sl l b 0 cap k (fun i j=>cur.getD (i*k+j) undef) hlc hcap (hfree b (o2.elim .inr fun q=>.inl (hK b q)) o3) o1 hkk (fun i' j' hi' hj'=>?_) fun i' cs j' x' hi' hx'=>?_
     ·rw[cell_cur hc,Nat.zero_add];have:i'*k+j' < cur.length:=by rw[hcl];exact vL (by omega) hj'
      simp[List.getD,this]
     ·obtain⟨u,hu,rfl,h1⟩:=hr i' cs j' x' hi' hx';simp only[List.getD,hu,Option.getD_some];exact .v u h1
   refine⟨x,[x.val],h1,h2,rfl,rfl,fun _=>rfl,fun u hu=>by rw[List.mem_singleton] at hu;rw[hu];exact hd.one,h3,fun j y u hy hu=>?_⟩
   cases j with
   | zero=>simp at hy hu;subst hy;subst hu;exact hd
   | succ j=>simp at hy
 ·rw[hlk id o ho,hg] at hgi
  cases hgi
  exact h.lt
def vJ(R:Ye)(es:Array MapEntry):List (List Int×Value):=List.zipWith (fun r x=>(r.1,x.val)) R es.toList
theorem xu{R:Ye}{es:Array MapEntry}(h:es.size=R.length):(vJ R es).length=R.length:=by simp[vJ,h]
theorem JY{R:Ye}{es:Array MapEntry}(h:es.size=R.length):(vJ R es).map (·.1)=R.map (·.1):=by
 apply List.ext_getElem?;intro i;simp only[vJ,List.getElem?_map,List.getElem?_zipWith]
 cases hR:R[i]? with
 | none=>simp
 | some r=>
  have:i < es.toList.length:=by have:=(List.getElem?_eq_some_iff.1 hR).1;simp;omega
  simp[List.getElem?_eq_getElem this]
theorem JZ{R:Ye}{es:Array MapEntry}{i:Nat}{ns:List Int}{u:Value}(h:(vJ R es)[i]?=some (ns,u)):∃ l x,R[i]?=some (ns,l)/\es[i]?=some x/\x.val=u:=by
 simp only[vJ,List.getElem?_zipWith] at h
 cases hR:R[i]? with
 | none=>rw[hR] at h;cases h
 | some r=>
  cases hx:es.toList[i]? with
  | none=>rw[hR,hx] at h;cases h
  | some x=>
   rw[hR,hx] at h;simp only[Option.some.injEq,Prod.mk.injEq] at h;exact⟨r.2,x,by rw[<- h.1],by simpa using hx,h.2⟩
theorem Wy{R:Ye}{es:Array MapEntry}{i:Nat}{ns:List Int}{l:List (List DV)}{x:MapEntry}(h:R[i]?=some (ns,l))(hx:es[i]?=some x):(vJ R es)[i]?=some (ns,x.val):=by
 have hx':es.toList[i]?=some x:=by simpa using hx
 rw[vJ,List.getElem?_zipWith,h,hx']
def ctxT(ctx:Ctx)(mb:Nat)(blk:Nat->Option (Nat×Nat))(j:Nat)(w:World):Ctx:=⟨w,Dt ctx mb blk,fun b=>b=mb\/∃ c,blk j=some (b,c)⟩
section
variable{R:Ye}{mb:Nat}{blk:Nat->Option (Nat×Nat)}{es:Array MapEntry}{ck:Nat}
theorem RelT.found(h:RelT ctx ks e k mid n sl R a w g mb blk es ck)(hnm:∀ x∈sl,∀ id,x.2.has id=true->id=mid)(hm:mid≠50){j:Nat}{ns:List Int}{l:List (List DV)}(hj:R[j]?=some (ns,l)) :
  RelG (ctxT ctx mb blk j w) (upd g 50 (blk j)) ⟨n,sl,[(mid,.mapP ks (vJ R es) (some (j,.row 50 l.length)) (es.toList.map (·.born)) ck),(50,.row e k l)]⟩ a w:=by
 obtain⟨q,hg⟩:=h.gm;have hgm:upd g 50 (blk j) mid=some (mb,q):=by rw[zh hm];exact hg
 have hg5:upd g 50 (blk j) 50=blk j:=zF _ _ _;have hlk:∀ id o,look [(mid,Ob.mapP ks (vJ R es) (some (j,.row 50 l.length)) (es.toList.map (·.born)) ck),(50,Ob.row e k l)] id=some o->(id=mid/\o=.mapP ks (vJ R es) (some (j,.row 50 l.length)) (es.toList.map (·.born)) ck)\/(id=50/\o=.row e k l):=fun id o ho=>by
  simp only[look] at ho
  split at ho
  ·cases ho;exact .inl ⟨by assumption,rfl⟩
  ·split at ho
   ·cases ho;exact .inr ⟨by assumption,rfl⟩
   ·cases ho
 have hfree:∀ b,Dt ctx mb blk b->zZ (ctxT ctx mb blk j w) (upd g 50 (blk j)) [(mid,Ob.mapP ks (vJ R es) (some (j,.row 50 l.length)) (es.toList.map (·.born)) ck),(50,Ob.row e k l)] b:=fun b hb=>⟨.inl hb,fun id o m ho hgi=>by
  rcases hlk id o ho with⟨rfl,_⟩ | ⟨rfl,_⟩
  ·rw[hgm] at hgi;cases hgi;exact hb.2.1 rfl
  ·rw[hg5] at hgi;exact hb.2.2 j m hgi⟩
 obtain⟨x,h1,h2,h3,h4⟩:=h.ent j ns l hj;refine⟨h.defers,h.size,fun i p hp=>?_,fun id o ho=>?_,fun i i' oi oj b m m' hi hi' hgi hgj=>?_,fun id o b m ho hgi=>?_,rfl,rfl,rfl,Nat.le_refl _,fun _ _ _=>rfl⟩
 ·exact(h.slots i p hp).keep ⟨Nat.le_refl _,fun _ _ _=>rfl⟩ (fun b hb _=>hfree b hb) (fun id hid=>by rw[hnm _ (at_mem hp) id hid,hgm,hg])
 ·rcases hlk id o ho with⟨rfl,rfl⟩ | ⟨rfl,rfl⟩
  ·refine .mapP ks _ _ _ ck mb q es hgm h.hh (by rw[xu h.sz,h.sz]) rfl h.below h.nodup (fun i ns' u hi=>?_) fun j' p hjp=>?_
   ·obtain⟨l',x',r1,r2,r3⟩:=JZ hi;obtain⟨x2,s1,s2,s3,s4⟩:=h.ent i ns' l' r1;rw[r2] at s1;cases s1;refine⟨x',r2,s2,s3,?_,fun _=>r3⟩
    cases hb:blk i with
    | none=>rw[hb] at s4;rw[s4.2];rfl
    | some bc=>obtain⟨b,c⟩:=bc;rw[hb] at s4;rw[s4.1];rfl
   ·cases hjp
    refine⟨x,h1,?_⟩
    cases hb:blk j with
    | none=>rw[hb] at h4;obtain⟨rfl,hv⟩:=h4;rw[hv];exact .rowNil 50 (zF _ _ _)
    | some bc=>obtain⟨b,c⟩:=bc;rw[hb] at h4;rw[h4.1];exact .row 50 _ b c (zF _ _ _)
  ·cases hb:blk j with
   | none=>rw[hb] at h4;obtain⟨rfl,hv⟩:=h4;exact .rowNil e k (zF _ _ _)
   | some bc=>
    obtain⟨b,c⟩:=bc;rw[hb] at h4;obtain⟨hv,cur,hc,hlc,hcap,hcl,hkk,hr⟩:=h4;refine .row e k l b c cur (zF _ _ _) hc hlc hcap hcl hkk fun i' cs j' x' hi' hx'=>?_
    obtain⟨u,hu,rfl,ho1⟩:=hr i' cs j' x' hi' hx';exact⟨u,hu,.v u ho1⟩
 ·rcases hlk i oi hi with⟨rfl,_⟩ | ⟨rfl,_⟩ <;> rcases hlk i' oj hi' with⟨rfl,_⟩ | ⟨rfl,_⟩
  ·rfl
  ·rw[hgm] at hgi;cases hgi;rw[hg5] at hgj;exact((h.own j _ _ hgj).2.2 rfl).elim
  ·rw[hgm] at hgj;cases hgj;rw[hg5] at hgi;exact((h.own j _ _ hgi).2.2 rfl).elim
  ·rfl
 ·rcases hlk id o ho with⟨rfl,_⟩ | ⟨rfl,_⟩
  ·rw[hgm] at hgi;cases hgi;exact⟨h.lt.1,.inr (.inl rfl)⟩
  ·rw[hg5] at hgi;exact⟨(h.own j _ _ hgi).1,.inr (.inr ⟨_,hgi⟩)⟩
theorem RelT.fresh(h:RelT ctx ks e k mid n sl R a w g mb blk es ck)(j:Nat) :
  RelG (ctxT ctx mb blk j w) g ⟨n,sl,[(mid,.mapP ks (vJ R es) none (es.toList.map (·.born)) ck)]⟩ a w:=by
 obtain⟨q,hg⟩:=h.gm;have hlk:∀ id o,look [(mid,Ob.mapP ks (vJ R es) none (es.toList.map (·.born)) ck)] id=some o->id=mid/\o=.mapP ks (vJ R es) none (es.toList.map (·.born)) ck:=fun id o ho=>by
  simp only[look] at ho
  split at ho
  ·cases ho;exact⟨by assumption,rfl⟩
  ·cases ho
 have hfree:∀ b,Dt ctx mb blk b->zZ (ctxT ctx mb blk j w) g [(mid,Ob.mapP ks (vJ R es) none (es.toList.map (·.born)) ck)] b:=fun b hb=>⟨.inl hb,fun id o m ho hgi=>by
  rw[(hlk id o ho).1,hg] at hgi;cases hgi;exact hb.2.1 rfl⟩
 refine⟨h.defers,h.size,fun i p hp=>?_,fun id o ho=>?_,fun i i' oi oj b m m' hi hi' hgi hgj=>?_,fun id o b m ho hgi=>?_,rfl,rfl,rfl,Nat.le_refl _,fun _ _ _=>rfl⟩
 ·exact(h.slots i p hp).keep ⟨Nat.le_refl _,fun _ _ _=>rfl⟩ (fun b hb _=>hfree b hb) (fun _ _=>rfl)
 ·obtain⟨rfl,rfl⟩:=hlk id o ho;refine .mapP ks _ _ _ ck mb q es hg h.hh (by rw[xu h.sz,h.sz]) rfl h.below h.nodup (fun i ns' u hi=>?_) fun j' p hjp=>by cases hjp
  obtain⟨l',x',r1,r2,r3⟩:=JZ hi;obtain⟨x2,s1,s2,s3,s4⟩:=h.ent i ns' l' r1;rw[r2] at s1;cases s1;refine⟨x',r2,s2,s3,?_,fun _=>r3⟩
  cases hb:blk i with
  | none=>rw[hb] at s4;rw[s4.2];rfl
  | some bc=>obtain⟨b,c⟩:=bc;rw[hb] at s4;rw[s4.1];rfl
 ·rw[(hlk i oi hi).1,(hlk i' oj hi').1]
 ·rw[(hlk id o ho).1,hg] at hgi;cases hgi;exact⟨h.lt.1,.inr (.inl rfl)⟩
theorem RelT.back(h:RelT ctx ks e k mid n sl R a w g mb blk es ck){j q:Nat}{ns:List Int}{l:List (List DV)}{R':Ye}{vm:List (List Int×Value)}{sl':List (Nat×PV)}{a':Act}{w':World}{g':zR}{bs':List Nat}{ck':Nat}(hq:mid≠q)(hle:R.length<=R'.length)
  (hvl:vm.length=R'.length) (hj:R'[j]?=some (ns,l)) (hjv:∃ u,vm[j]?=some (ns,u)) (hvm:∀ i ns' l',i≠j->R'[i]?=some (ns',l')->R[i]?=some (ns',l')/\∃ x,es[i]?=some x/\vm[i]?=some (ns',x.val)) (hpl:Qi l)
  (hr:RelG (ctxT ctx mb blk j w) g' ⟨n,sl',[(mid,.mapP ks vm (some (j,.row q l.length)) bs' ck'),(q,.row e k l)]⟩ a' w') :
  ∃ mb' blk' es',RelT ctx ks e k mid n sl' R' a' w' g' mb' blk' es' ck':=by
 have hlm:look [(mid,Ob.mapP ks vm (some (j,.row q l.length)) bs' ck'),(q,Ob.row e k l)] mid=some (.mapP ks vm (some (j,.row q l.length)) bs' ck'):=by simp[look]
 have hlq:look [(mid,Ob.mapP ks vm (some (j,.row q l.length)) bs' ck'),(q,Ob.row e k l)] q=some (.row e k l):=by simp[look,Ne.symm hq]
 cases hr.objs mid _ hlm with
 | mapP _ _ _ _ _ mb' n' es' hgm hh hsz hst hbl hnd hent hov=>
  subst hst;have hgr:w.heap.size<=w'.heap.size:=hr.grows;have hbase:ctx.w0.heap.size<=w.heap.size:=h.grows;have hown:∀ id o b m,look [(mid,Ob.mapP ks vm (some (j,.row q l.length)) (es'.toList.map (·.born)) ck'),(q,Ob.row e k l)] id=some o->g' id=some (b,m)->b < w'.heap.size/\(w.heap.size<=b\/b=mb\/∃ c,blk j=some (b,c)):=fun id o b m ho hg=>hr.own id o b m ho hg
  have hnew:∀ b,(w.heap.size<=b\/b=mb\/∃ c,blk j=some (b,c))->ctx.w0.heap.size<=b\/ctx.K b:=fun b hb=>by
   rcases hb with hb | hb | ⟨c,hb⟩
   ·exact .inl (by omega)
   ·subst hb;exact h.lt.2
   ·exact(h.own j b c hb).2.1
  have hkeep:∀ i b c,i≠j->blk i=some (b,c)->w'.heap[b]?=w.heap[b]?:=fun i b c hij hb=>hr.keep b (h.own i b c hb).1 fun hk=>by
   rcases hk with hk | ⟨c',hk⟩
   ·exact(h.own i b c hb).2.2 hk
   ·exact hij (h.inj i j b c c' hb hk)
  have hdiff:∀ i b c,i≠j->blk i=some (b,c)->¬ (w.heap.size<=b\/b=mb\/∃ c,blk j=some (b,c)):=fun i b c hij hb hk=>by
   rcases hk with hk | hk | ⟨c',hk⟩
   ·have:=(h.own i b c hb).1;omega
   ·exact(h.own i b c hb).2.2 hk
   ·exact hij (h.inj i j b c c' hb hk)
  refine⟨mb',fun i=>if i=j then g' q else blk i,es',hr.defers,hr.size,fun i p hp=>?_,⟨n',hgm⟩,⟨(hown mid _ mb' n' hlm hgm).1,hnew mb' (hown mid _ mb' n' hlm hgm).2⟩,hh,by rw[hsz,hvl],hbl,hnd,fun i ns' l' hi=>?_,fun i i' b c c' hi hi'=>?_,fun i b c hi=>?_,fun i hi=>?_,?_,?_,?_,by omega,fun z hz hzK=>?_⟩
  ·refine(hr.slots i p hp).keep ⟨Nat.le_refl _,fun _ _ _=>rfl⟩ (fun b hb _=>⟨?_,fun eb=>?_,fun i' c hc=>?_⟩) (fun _ _=>rfl)
   ·rcases hb.1 with h1 | h1
    ·exact h1.1
    ·have h1':w.heap.size<=b:=h1;exact .inr (by omega)
   ·subst eb;exact hb.2 mid _ n' hlm hgm
   ·simp only at hc
    split at hc
    ·exact hb.2 q _ c hlq hc
    ·rcases hb.1 with h1 | h1
     ·exact h1.2.2 i' c hc
     ·have h1':w.heap.size<=b:=h1;have:=(h.own i' b c hc).1;omega
  ·by_cases hij:i=j
   ·subst hij;rw[hj] at hi
    cases hi
    obtain⟨u,hu⟩:=hjv;obtain⟨x,r1,r2,r3,_,_⟩:=hent i _ u hu;obtain⟨x',s1,s2⟩:=hov i _ rfl;rw[r1] at s1
    cases s1
    refine⟨x,r1,r2,r3,?_⟩;simp only[if_true];have h2:=rd_row s2
    generalize hL:l.length=L at h2
    cases hr.objs q _ hlq with
    | rowNil _ _ hgq=>
     rw[hgq];rcases h2 with⟨b,c,hgi,_⟩ | ⟨_,_,hv⟩
     ·rw[hgq] at hgi;cases hgi
     ·exact⟨rfl,hv⟩
    | row _ _ _ b c cur hgq hc hlc hcap hcl hkk hrr=>
     rw[hgq];rcases h2 with⟨b',c',hgi,hv⟩ | ⟨hgi,_,_⟩
     ·rw[hgq] at hgi
      cases hgi
      subst hL;refine⟨hv,cur,hc,hlc,hcap,hcl,hkk,fun i' cs j' y hi' hy=>?_⟩;obtain⟨u',hu',hd⟩:=hrr i' cs j' y hi' hy;obtain⟨u2,rfl⟩:=hpl cs (List.mem_of_getElem? hi') y (List.mem_of_getElem? hy)
      cases hd with
      | v _ h1=>exact⟨_,hu',rfl,h1⟩
     ·rw[hgq] at hgi;cases hgi
   ·obtain⟨r0,x0,e0,r1⟩:=hvm i ns' l' hij hi;obtain⟨x,s1,s2,s3,s4,s5⟩:=hent i _ _ r1;refine⟨x,s1,s2,s3,?_⟩;have hxv:=s5 fun p hp=>by cases hp;exact hij rfl
    simp only[if_neg hij];obtain⟨x',t1,_,_,t4⟩:=h.ent i ns' l' r0;rw[e0] at t1
    cases t1
    rw[hxv]
    cases hb:blk i with
    | none=>rw[hb] at t4;exact t4
    | some bc=>
     obtain⟨b,c⟩:=bc;rw[hb] at t4;obtain⟨hv,cur,hc,rest⟩:=t4;exact⟨hv,cur,by rw[hkeep i b c hij hb];exact hc,rest⟩
  ·have hi0:=hi;have hi0':=hi';clear hi hi';have hi:(if i=j then g' q else blk i)=some (b,c):=hi0;have hi':(if i'=j then g' q else blk i')=some (b,c'):=hi0'
   by_cases h1:i=j <;> by_cases h2:i'=j
   ·rw[h1,h2]
   ·rw[if_pos h1] at hi;rw[if_neg h2] at hi';exact(hdiff i' b c' h2 hi' (hown q _ b c hlq hi).2).elim
   ·rw[if_neg h1] at hi;rw[if_pos h2] at hi';exact(hdiff i b c h1 hi (hown q _ b c' hlq hi').2).elim
   ·rw[if_neg h1] at hi;rw[if_neg h2] at hi';exact h.inj i i' b c c' hi hi'
  ·replace hi:(if i=j then g' q else blk i)=some (b,c):=hi
   by_cases h1:i=j
   ·rw[if_pos h1] at hi;have:=hown q _ b c hlq hi;exact⟨this.1,hnew b this.2,fun eb=>by subst eb;exact hq (hr.inj mid q _ _ b n' c hlm hlq hgm hi)⟩
   ·rw[if_neg h1] at hi;have:=h.own i b c hi;exact⟨by omega,this.2.1,fun eb=>by subst eb;exact hdiff i b c h1 hi (hown mid _ b n' hlm hgm).2⟩
  ·have hjl:=(List.getElem?_eq_some_iff.1 hj).1;simp only[if_neg (show i≠j by omega)];exact h.out i (by omega)
  ·rw[<- h.os];exact hr.os
  ·rw[<- h.tape];exact hr.tape
  ·rw[<- h.output];exact hr.output
  ·rw[<- h.keep z hz hzK];refine hr.keep z (Nat.lt_of_lt_of_le hz hbase) fun hk=>?_
   rcases hk with hk | ⟨c,hk⟩
   ·subst hk;rcases h.lt.2 with h1 | h1
    ·omega
    ·exact hzK h1
   ·rcases(h.own j z c hk).2.1 with h1 | h1
    ·omega
    ·exact hzK h1
theorem RelT.back0(h:RelT ctx ks e k mid n sl R a w g mb blk es ck){j:Nat}(hjn:blk j=none){sl':List (Nat×PV)}{a':Act}{w':World}{g':zR}{bs':List Nat}{ck':Nat}
  (hr:RelG (ctxT ctx mb blk j w) g' ⟨n,sl',[(mid,.mapP ks (vJ R es) none bs' ck')]⟩ a' w') :
  ∃ mb' es',RelT ctx ks e k mid n sl' R a' w' g' mb' blk es' ck':=by
 have hlm:look [(mid,Ob.mapP ks (vJ R es) none bs' ck')] mid=some (.mapP ks (vJ R es) none bs' ck'):=by simp[look]
 cases hr.objs mid _ hlm with
 | mapP _ _ _ _ _ mb' n' es' hgm hh hsz hst hbl hnd hent hov=>
  subst hst;have hgr:w.heap.size<=w'.heap.size:=hr.grows;have hbase:ctx.w0.heap.size<=w.heap.size:=h.grows;have hown:mb' < w'.heap.size/\(w.heap.size<=mb'\/mb'=mb\/∃ c,blk j=some (mb',c)):=hr.own mid _ mb' n' hlm hgm;have hown2:w.heap.size<=mb'\/mb'=mb:=by
   rcases hown.2 with h1 | h1 | ⟨c,h1⟩
   ·exact .inl h1
   ·exact .inr h1
   ·rw[hjn] at h1;cases h1
  have hkeep:∀ i b c,blk i=some (b,c)->w'.heap[b]?=w.heap[b]?:=fun i b c hb=>hr.keep b (h.own i b c hb).1 fun hk=>by
   rcases hk with hk | ⟨c',hk⟩
   ·exact(h.own i b c hb).2.2 hk
   ·rw[hjn] at hk;cases hk
  refine⟨mb',es',hr.defers,hr.size,fun i p hp=>?_,⟨n',hgm⟩,⟨hown.1,?_⟩,hh,by rw[hsz,xu h.sz],hbl,hnd,fun i ns' l' hi=>?_,h.inj,fun i b c hi=>?_,h.out,?_,?_,?_,by omega,fun z hz hzK=>?_⟩
  ·refine(hr.slots i p hp).keep ⟨Nat.le_refl _,fun _ _ _=>rfl⟩ (fun b hb _=>⟨?_,fun eb=>?_,fun i' c hc=>?_⟩) (fun _ _=>rfl)
   ·rcases hb.1 with h1 | h1
    ·exact h1.1
    ·have h1':w.heap.size<=b:=h1;exact .inr (by omega)
   ·subst eb;exact hb.2 mid _ n' hlm hgm
   ·rcases hb.1 with h1 | h1
    ·exact h1.2.2 i' c hc
    ·have h1':w.heap.size<=b:=h1;have:=(h.own i' b c hc).1;omega
  ·rcases hown2 with h1 | h1
   ·exact .inl (by omega)
   ·rw[h1];exact h.lt.2
  ·obtain⟨x',t1,t2,t3,t4⟩:=h.ent i ns' l' hi;obtain⟨x,s1,s2,s3,s4,s5⟩:=hent i _ _ (Wy hi t1);refine⟨x,s1,s2,s3,?_⟩;rw[s5 fun p hp=>by cases hp]
   cases hb:blk i with
   | none=>rw[hb] at t4;exact t4
   | some bc=>
    obtain⟨b,c⟩:=bc;rw[hb] at t4;obtain⟨hv,cur,hc,rest⟩:=t4;exact⟨hv,cur,by rw[hkeep i b c hb];exact hc,rest⟩
  ·have:=h.own i b c hi;refine⟨by omega,this.2.1,fun eb=>?_⟩;rcases hown2 with h1 | h1
   ·omega
   ·exact this.2.2 (by rw[eb,h1])
  ·rw[<- h.os];exact hr.os
  ·rw[<- h.tape];exact hr.tape
  ·rw[<- h.output];exact hr.output
  ·rw[<- h.keep z hz hzK];refine hr.keep z (Nat.lt_of_lt_of_le hz hbase) fun hk=>?_
   rcases hk with hk | ⟨c,hk⟩
   ·subst hk;rcases h.lt.2 with h1 | h1
    ·omega
    ·exact hzK h1
   ·rw[hjn] at hk;cases hk
end
end
section
variable{P:Program}{ctx:Ctx}{ks:List IntKind}{e:TypeId}{k mid n:Nat}{Q:PQ}{s:PState}{c:Code}
inductive RoundT (P:Program) (c:Code) (ks:List IntKind) (e:TypeId) (k mid n:Nat) (sl:List (Nat×PV)) (R:Ye) (sl':List (Nat×PV)) (R':Ye):Prop
 | found {j nl nl':Nat} {ns:List Int} {l l':List (List DV)} (hl:nl=l.length) (hl':nl'=l'.length) (hj:R[j]?=some (ns,l)) (hR:R'=R.set j (ns,l'))
   (h:∀ (ctx:Ctx) (vm:List (List Int×Value)) (bs:List Nat) (ck:Nat),vm.map (·.1)=R.map (·.1)->PWc P ctx c (fun x t=>x=.normal/\Sub ctx t ⟨n,sl',[(mid,.mapP ks vm (some (j,.row 50 nl')) bs ck),(50,.row e k l')]⟩) ⟨n,sl,[(mid,.mapP ks vm (some (j,.row 50 nl)) bs ck),(50,.row e k l)]⟩)
 | fresh {q nl':Nat} {ns:List Int} {l':List (List DV)} (hl':nl'=l'.length) (hq:mid≠q) (hR:R'=R++[(ns,l')])
   (h:∀ (ctx:Ctx) (vm:List (List Int×Value)) (bs:List Nat) (ck:Nat),vm.map (·.1)=R.map (·.1)->PWc P ctx c (fun x t=>x=.normal/\Sub ctx t ⟨n,sl',[(mid,.mapP ks (vm++[(ns,undef)]) (some (vm.length,.row q nl')) (bs++[ck]) (ck+1)),(q,.row e k l')]⟩) ⟨n,sl,[(mid,.mapP ks vm none bs ck)]⟩)
 | skip (hR:R'=R) (h:∀ (ctx:Ctx) (vm:List (List Int×Value)) (bs:List Nat) (ck:Nat),PWc P ctx c (fun x t=>x=.normal/\Sub ctx t ⟨n,sl',[(mid,.mapP ks vm none bs ck)]⟩) ⟨n,sl,[(mid,.mapP ks vm none bs ck)]⟩)
theorem RoundT.run{sl sl':List (Nat×PV)}{R R':Ye}(hr:RoundT P c ks e k mid n sl R sl' R')(hm:mid≠50)(hnm:∀ x∈sl,∀ id,x.2.has id=true->id=mid)(hpl:∀ p∈R',Qi p.2)
  {a:Act} {w:World} {g:zR} {mb:Nat} {blk:Nat->Option (Nat×Nat)} {es:Array MapEntry} {ck:Nat} (h:RelT ctx ks e k mid n sl R a w g mb blk es ck) :
  c.wp P (fun x a' w'=>x=.normal/\∃ g' mb' blk' es' ck',RelT ctx ks e k mid n sl' R' a' w' g' mb' blk' es' ck') a w:=by
 cases hr with
 | @found j nl nl' ns l l' hl hl' hj hR hw=>
  subst hl hl';refine wp_mono (hw (ctxT ctx mb blk j w) (vJ R es) (es.toList.map (·.born)) ck (JY h.sz) a w ⟨_,h.found hnm hm hj⟩) fun x a' w' ⟨t,⟨hx,hs⟩,ht⟩=>⟨hx,?_⟩
  obtain⟨g',hg'⟩:=hs a' w' ht;subst hR;have hjl:=(List.getElem?_eq_some_iff.1 hj).1;obtain⟨x0,e0,_,_,_⟩:=h.ent j ns l hj;have hj':(R.set j (ns,l'))[j]?=some (ns,l'):=by rw[List.getElem?_set_self hjl]
  obtain⟨mb',blk',es',hT⟩:=h.back (R':=R.set j (ns,l')) (vm:=vJ R es) (q:=50) hm (by simp) (by rw[xu h.sz];simp) hj' ⟨x0.val,Wy hj e0⟩ (fun i ns' l2 hij hi=>by
   rw[List.getElem?_set_ne (Ne.symm hij)] at hi;obtain⟨x1,e1,_⟩:=h.ent i ns' l2 hi;exact⟨hi,x1,e1,Wy hi e1⟩) (hpl _ (List.mem_of_getElem? hj')) hg'
  exact⟨g',mb',blk',es',_,hT⟩
 | @fresh q nl' ns l' hl' hq hR hw=>
  subst hl';refine wp_mono (hw (ctxT ctx mb blk R.length w) (vJ R es) (es.toList.map (·.born)) ck (JY h.sz) a w ⟨_,h.fresh R.length⟩) fun x a' w' ⟨t,⟨hx,hs⟩,ht⟩=>⟨hx,?_⟩
  obtain⟨g',hg'⟩:=hs a' w' ht;subst hR;have hj':(R++[(ns,l')])[R.length]?=some (ns,l'):=by simp
  rw[xu h.sz] at hg';obtain⟨mb',blk',es',hT⟩:=h.back (R':=R++[(ns,l')]) (j:=R.length) (vm:=vJ R es++[(ns,undef)]) (q:=q) hq (by simp) (by simp[xu h.sz]) hj' ⟨undef,by rw[List.getElem?_append_right (by rw[xu h.sz];exact Nat.le_refl _)];simp[xu h.sz]⟩ (fun i ns' l2 hij hi=>by
   have hil:i < R.length:=by
    have:=(List.getElem?_eq_some_iff.1 hi).1;simp at this;omega
   rw[List.getElem?_append_left hil] at hi;obtain⟨x1,e1,_⟩:=h.ent i ns' l2 hi;exact⟨hi,x1,e1,by rw[List.getElem?_append_left (by rw[xu h.sz];exact hil)];exact Wy hi e1⟩) (hpl _ (List.mem_of_getElem? hj')) hg'
  exact⟨g',mb',blk',es',_,hT⟩
 | skip hR hw=>
  refine wp_mono (hw (ctxT ctx mb blk R.length w) (vJ R es) (es.toList.map (·.born)) ck a w ⟨_,h.fresh R.length⟩) fun x a' w' ⟨t,⟨hx,hs⟩,ht⟩=>⟨hx,?_⟩
  obtain⟨g',hg'⟩:=hs a' w' ht;subst hR;obtain⟨mb',es',hT⟩:=h.back0 (h.out _ (Nat.le_refl _)) hg';exact⟨g',mb',blk,es',_,hT⟩
theorem PWc.loopRows{bid N:Nat}(J:Nat->List (Nat×PV))(R:Nat->Ye)(Jf:List (Nat×PV))(bs0:List Nat)(ck0:Nat)(hK:∀ b,ctx.K b->ctx.S b)(hm:mid≠50)(hJ:∀ i,∀ x∈J i,∀ id,x.2.has id=true->id=mid)
  (h0:R 0=[]) (hpl:∀ i,∀ p∈R i,Qi p.2) (hs:Sub ctx s ⟨n,J 0,[(mid,.map ks false [] bs0 ck0)]⟩)
  (round:∀ i,i < N->RoundT P c ks e k mid n (J i) (R i) (J (i+1)) (R (i+1)))
  (mf:Mp) (hmf:jM (R N)=mf) (last:∀ (ctx:Ctx) (vm:List (List Int×Value)) (bs:List Nat) (ck:Nat),PWc P ctx c (fun x t=>x=.exit bid/\Sub ctx t ⟨n,Jf,[(mid,.mapP ks vm none bs ck)]⟩) ⟨n,J N,[(mid,.mapP ks vm none bs ck)]⟩)
  (hQ:∀ bs ck,Q (.exit bid) ⟨n,Jf,[(mid,.map ks false mf bs ck)]⟩):PWc P ctx (.loop c) Q s:=by
 subst hmf;intro a w hr;refine LoopAt.loop ?_;have key:∀ d i,i+d=N->∀ a w g mb blk es ck,RelT ctx ks e k mid n (J i) (R i) a w g mb blk es ck->LoopAt P c (lift ctx Q) a w:=by
  intro d
  induction d with
  | zero=>
   intro i hi a w g mb blk es ck h;have:i=N:=by omega
   subst this;refine LoopAt.step (wp_mono (last (ctxT ctx mb blk (R i).length w) (vJ (R i) es) (es.toList.map (·.born)) ck a w ⟨_,h.fresh (R i).length⟩) fun x a' w' ⟨t,⟨hx,hsb⟩,ht⟩=>?_);obtain⟨g',hg'⟩:=hsb a' w' ht;obtain⟨mb',es',hT⟩:=h.back0 (h.out _ (Nat.le_refl _)) hg';subst hx;exact⟨_,hQ _ _,g',hT.done hK⟩
  | succ d ih=>
   intro i hi a w g mb blk es ck h;refine LoopAt.step (wp_mono ((round i (by omega)).run hm (hJ i) (hpl (i+1)) h) fun x a' w' ⟨hx,g',mb',blk',es',ck',hT⟩=>?_);subst hx;exact ih (i+1) (by omega) a' w' g' mb' blk' es' ck' hT
 obtain⟨g,hg⟩:=hs a w hr;obtain⟨mb,es,ck,hT⟩:=RelT.start (e:=e) (k:=k) hg;rw[<- h0] at hT;exact key N 0 (by omega) a w g mb _ es ck hT
end
section
variable{κ α:Type}{eK:κ->List Int}{enc:α->List DV}
def wH(eK:κ->List Int)(enc:α->List DV)(m:List (κ×List α)):Ye:=m.map fun x=>(eK x.1,x.2.map enc)
theorem Qj(m:List (κ×List α)):jM (wH eK enc m)=zI eK (eL enc) m:=by simp[jM,wH,zI,eL]
theorem WX(h:∀ x,∀ d∈enc x,∃ u,d=DV.v u)(m:List (κ×List α)):∀ p∈wH eK enc m,Qi p.2:=by
 intro p hp cs hcs d hd;simp only[wH,List.mem_map] at hp;obtain⟨x,_,rfl⟩:=hp;obtain⟨y,_,rfl⟩:=List.mem_map.1 hcs;exact h y d hd
variable[DecidableEq κ]
theorem Xb{vm:List (List Int×Value)}{R:Ye}(h:vm.map (·.1)=R.map (·.1)):vn vm=R.map fun x=>(x.1,[]):=by
 have e1:vn vm=(vm.map (·.1)).map fun k=>(k,[]):=by simp[vn]
 rw[e1,h];simp
theorem WG(inj:∀ a b,eK a=eK b->a=b)(q:κ):∀ m:List (κ×List α),
  (∃ j l,yY (eK q) ((wH eK enc m).map fun x=>(x.1,([]:List DV))) 0=some j/\(wH eK enc m)[j]?=some (eK q,l.map enc)/\AL.getZ m q []=l/\∀ l',wH eK enc (AL.set m q l')=(wH eK enc m).set j (eK q,l'.map enc)) \/
  (yY (eK q) ((wH eK enc m).map fun x=>(x.1,([]:List DV))) 0=none/\AL.getZ m q []=[]/\∀ l',wH eK enc (AL.set m q l')=wH eK enc m++[(eK q,l'.map enc)])
 | []=>.inr ⟨rfl,rfl,fun _=>rfl⟩
 | (k,v)::r=>by
  by_cases h:k=q
  ·subst h;refine .inl ⟨0,v,?_,rfl,?_,fun l'=>?_⟩
   ·show(if eK k=eK k then _ else _)=_;rw[if_pos rfl]
   ·simp[AL.getZ,AL.get]
   ·simp[wH,AL.set]
  ·have he:¬ eK k=eK q:=fun e=>h (inj _ _ e)
   have hp:yY (eK q) ((wH eK enc ((k,v)::r)).map fun x=>(x.1,([]:List DV))) 0=(yY (eK q) ((wH eK enc r).map fun x=>(x.1,([]:List DV))) 0).map (1+·):=by
    show(if eK k=eK q then _ else _)=_;rw[if_neg he,xf]
    rfl
   have hg:AL.getZ ((k,v)::r) q []=AL.getZ r q []:=by simp[AL.getZ,AL.get,h]
   rcases WG inj q r with⟨j,l,h1,h2,h3,h4⟩ | ⟨h1,h2,h3⟩
   ·refine .inl ⟨1+j,l,by rw[hp,h1];rfl,?_,by rw[hg,h3],fun l'=>?_⟩
    ·rw[Nat.add_comm];exact h2
    ·rw[Nat.add_comm];have:=h4 l';simp only[AL.set,h,if_false];show _::wH eK enc (AL.set r q l')=_::_;rw[this];rfl
   ·refine .inr ⟨by rw[hp,h1];rfl,by rw[hg,h2],fun l'=>?_⟩;simp only[AL.set,h,if_false];show _::wH eK enc (AL.set r q l')=_::_;rw[h3 l'];rfl
end
namespace AL
variable{κ α β:Type}[DecidableEq κ]
theorem yga{ν:Type}(m:List (κ×ν))(k q:κ)(v z:ν):getZ (set m k v) q z=if k=q then v else getZ m q z:=by
 induction m with
 | nil=>by_cases h:k=q <;> simp[getZ,set,get,h]
 | cons x r ih=>
  obtain⟨a,u⟩:=x
  by_cases ha:a=k
  ·subst ha
   by_cases h:a=q <;> simp[getZ,set,get,h]
  ·simp only[set,ha,if_false]
   by_cases h:a=q
   ·subst h;have:¬ k=a:=fun e=>ha e.symm
    simp[getZ,get,this]
   ·have e1:getZ ((a,u)::set r k v) q z=getZ (set r k v) q z:=by simp[getZ,get,h]
    have e2:getZ ((a,u)::r) q z=getZ r q z:=by simp[getZ,get,h]
    rw[e1,e2];exact ih
theorem qX(m l l':List (κ×List α)):grow m (l++l')=grow (grow m l) l':=by simp[grow]
theorem grow_take{c:List β}{i:Nat}{p:β}(hp:c[i]?=some p)(f:β->Option (κ×List α)):grow ([]:List (κ×List α)) ((c.take (i+1)).filterMap f)=grow (grow [] ((c.take i).filterMap f)) (f p).toList:=by
 rw[List.take_add_one,hp,List.filterMap_append,qX]
 cases h:f p <;> simp[h]
theorem grow_len(q:κ)(l:List (κ×List α)):∀ m:List (κ×List α),(getZ (grow m l) q []).length<=(getZ m q []).length+(l.map fun x=>x.2.length).sum:=by
 induction l with
 | nil=>intro m;simp[grow]
 | cons x r ih=>
  intro m;have h1:=ih (set m x.1 (getZ m x.1 []++x.2));rw[yga] at h1;show(getZ (grow (set m x.1 (getZ m x.1 []++x.2)) r) q []).length<=_;simp only[List.map_cons,List.sum_cons]
  by_cases h:x.1=q
  ·subst h;rw[if_pos rfl,List.length_append] at h1;omega
  ·rw[if_neg h] at h1;omega
theorem grow_bound{c:List β}{i n bs:Nat}{p:β}{x:κ×List α}{f:β->Option (κ×List α)}(hB:growOK bs n (c.filterMap f))(hp:c[i]?=some p)(hf:f p=some x) :
  ((getZ (grow [] ((c.take i).filterMap f)) x.1 []).length+x.2.length)*bs<=140737488355328:=by
 have h1:=grow_len x.1 ((c.take i).filterMap f) [];have h2:c=c.take i++p::c.drop (i+1):=by
  have hlt:=(List.getElem?_eq_some_iff.1 hp).1;have:c[i]=p:=(List.getElem?_eq_some_iff.1 hp).2;rw[<- this,<- List.drop_eq_getElem_cons hlt,List.take_append_drop]
 have h3:((c.filterMap f).map fun x=>x.2.length).sum=(((c.take i).filterMap f).map fun x=>x.2.length).sum+(x.2.length+(((c.drop (i+1)).filterMap f).map fun x=>x.2.length).sum):=by
  conv=>lhs;rw[h2]
  simp[List.filterMap_append,List.filterMap_cons,hf]
 have h4:(getZ ([]:List (κ×List α)) x.1 []).length=0:=by simp[getZ,get]
 refine Nat.le_trans (Nat.mul_le_mul_right bs ?_) hB.2;omega
end AL
theorem yha{s s':PState}(h1:s'.n=s.n)(h2:s'.sl=s.sl){y:Operand}{q:PV}(h:s.ev y=some q):s'.ev y=some q:=by
 cases y with
 | tmp t=>show s'.at t=_;unfold PState.at;rw[h1,h2];exact h
 | const v=>cases v <;> exact h
 | func f=>exact h
 | global g=>exact h
theorem evObjs{s:PState}{objs:List (Nat×Ob)}{y:Operand}{q:PV}(h:s.ev y=some q):({ s with objs:=objs }:PState).ev y=some q:=yha (s:=s) rfl rfl h
theorem Vb{s:PState}{id:Nat}{e k:Nat}{l:List (List DV)}(h:s.fresh id=true):({ s with objs:=zi id (.row e k l) s.objs }:PState).alone id=true:=by
 unfold PState.fresh at h;unfold PState.alone;rw[Bool.and_eq_true] at h ⊢;refine⟨h.1,List.all_eq_true.2 fun x hx=>?_⟩;obtain⟨xk,xo⟩:=x;rcases Wm hx with h3 | h3
 ·cases h3;rfl
 ·have:=List.all_eq_true.1 h.2 _ h3;simp only[Bool.and_eq_true] at this;exact this.2
theorem idxU{α:Type}{l:List α}{i:Int}{x y:α}(h1:0<=i/\l[i.toNat]?=some x)(h2:0<=i/\l[i.toNat]?=some y):x=y:=by have:=h1.2.symm.trans h2.2;cases this;rfl
theorem detU{α:Type}{m:M α}{x y:α}(h1:m.wp (·=x))(h2:m.wp (·=y)):x=y:=by obtain⟨z,h3,h4⟩:=m.meet h1 h2;rw[<- h3,h4]
theorem Vc{i:Nat}(h:i < 9223372036854775807):IntKind.i64.wrap ((i:Int)+1)=((i+1:Nat):Int):=by rw[QN (by omega) (by omega)];rfl
end Go.Ep
namespace Go.Ep
open Go.RowKit
theorem yia{α β : Type}(f : α->β){l l' : List β}(h : l'.Perm l) : ∀ Z : List α, Z.map f=l->∃ Z' : List α, Z'.Perm Z/\Z'.map f=l' := by
  induction h with
  | nil => intro Z hZ; exact ⟨[], by have : Z = [] := by simpa using hZ
                                     rw[this], rfl⟩
  | cons x _ ih =>
    intro Z hZ
    cases Z with
    | nil => cases hZ
    | cons z r =>
      simp only[List.map_cons, List.cons.injEq] at hZ;obtain⟨Z', h1, h2⟩ := ih r hZ.2;exact⟨z::Z', h1.cons z, by simp[hZ.1, h2]⟩
  | swap x y _ =>
    intro Z hZ
    match Z, hZ with
    | a::b::r, hZ =>
      simp only[List.map_cons, List.cons.injEq] at hZ;exact⟨b::a::r, List.Perm.swap a b r, by simp[hZ]⟩
    | [a], hZ => simp at hZ
    | [], hZ => cases hZ
  | trans _ _ ih1 ih2 =>
    intro Z hZ;obtain⟨Z1, h1, h2⟩ := ih2 Z hZ;obtain⟨Z2, h3, h4⟩ := ih1 Z1 h2;exact⟨Z2, h3.trans h1, h4⟩
section
variable{P:Program}{ctx:Ctx}{Q:PQ}{s:PState}
variable{dst:Option Tmp}{ty:TypeId}{pos:String}{after:Array Edge}{gd:Option (Nat×Bool)}
theorem raws{α X:Type}{enc:α->List Value}{encD:X->List DV}{R:X->α->Prop}{k:Nat}{w:World}{S:Nat->Prop}{cur:List Value}
  (hraw:∀ (x:X) (us:List Value),us.length=k->(∀ (j:Nat) (d:DV) (u:Value),(encD x)[j]?=some d->us[j]?=some u->DRd w S d u)->∃ r:α,enc r=us/\R x r) (hk:∀ y,(encD y).length=k) :
  ∀ (l:List X) (b:Nat),(∀ (i:Nat) (x:X) (j:Nat) (d:DV),l[i]?=some x->(encD x)[j]?=some d->∃ u,cur[(b+i)*k+j]?=some u/\DRd w S d u) ->
   ∃ Z:List (X×α),Z.map (·.1)=l/\∀ i z,Z[i]?=some z->R z.1 z.2/\(∀ (j:Nat) (u:Value),(enc z.2)[j]?=some u->cur[(b+i)*k+j]?=some u)/\∀ (j:Nat) (d:DV) (u:Value),(encD z.1)[j]?=some d->(enc z.2)[j]?=some u->DRd w S d u
 | [],b,_=>⟨[],rfl,fun i z h=>by simp at h⟩
 | x::r,b,h=>by
  obtain⟨Z,h1,h2⟩:=raws hraw hk r (b+1) fun i y j d hi hd=>by
   have:=h (i+1) y j d (by simpa using hi) hd
   rwa [show b+(i+1)=b+1+i by omega] at this
  let us:List Value:=(List.range k).map fun j=>cur.getD (b*k+j) undef
  have hget:∀ j d,(encD x)[j]?=some d->∃ u,us[j]?=some u/\cur[b*k+j]?=some u/\DRd w S d u:=fun j d hd=>by
   obtain⟨u,h3,h4⟩:=h 0 x j d rfl hd;rw[Nat.add_zero] at h3;have hj:j < k:=by rw[<- hk x];exact(List.getElem?_eq_some_iff.1 hd).1
   exact⟨u,by simp[us,hj,List.getD,h3],h3,h4⟩
  obtain⟨q,h3,h4⟩:=hraw x us (by simp[us]) fun j d u hd hu=>by
   obtain⟨u',h5,_,h6⟩:=hget j d hd;rw[h5] at hu;cases hu;exact h6
  refine⟨(x,q)::Z,by simp[h1],fun i z hz=>?_⟩
  cases i with
  | zero=>
   simp only[List.getElem?_cons_zero,Option.some.injEq] at hz;subst hz;refine⟨h4,fun j u hu=>?_,fun j d u hd hu=>?_⟩
   ·rw[Nat.add_zero];simp only[h3] at hu;have hj:j < k:=by have:=(List.getElem?_eq_some_iff.1 hu).1;simpa[us] using this
    have hj2:j < (encD x).length:=by rw[hk];exact hj
    obtain⟨u',h5,h6,_⟩:=hget j _ (List.getElem?_eq_getElem hj2);rw[h5] at hu;cases hu;exact h6
   ·simp only[h3] at hu;obtain⟨u',h5,_,h6⟩:=hget j d hd;rw[h5] at hu;cases hu;exact h6
  | succ i=>
   have:=h2 i z (by simpa using hz)
   rwa [show b+1+i=b+(i+1) by omega] at this
theorem PWl.sortFnR{α X:Type}{ops:Array Oper}{rest:List Oper}{id n k:Nat}{e:TypeId}{fx x gx:Operand}{ats:Array TypeId}{f g:FuncId}{enc:α->List Value}{encD:X->List DV}{ltR:α->α->Bool}{lt:X->X->Bool}{R:X->α->Prop}{l:List X}(hS:SortLaw P f g k enc ltR)
  (hraw:∀ (w:World) (S:Nat->Prop) (x:X) (us:List Value),us.length=k->(∀ (j:Nat) (d:DV) (u:Value),(encD x)[j]?=some d->us[j]?=some u->DRd w S d u)->∃ r:α,enc r=us/\R x r) (hlt:∀ x y r r',R x r->R y r'->ltR r r'=lt x y) (hk:∀ y,(encD y).length=k) (hk2:∀ y,(enc y).length=k)
  (hfx:s.ev fx=some (.d (.v (.func (.func f) #[] #[])))) (he:∀ args w,(callFunc f args).run P w=.ok (.enter f args) w) (hx:s.ev x=some (.row id n)) (hgx:s.ev gx=some (.d (.v (.func (.func g) #[] #[]))))
  (hl:look s.objs id=some (.row e k (l.map encD))) (hn:l.length=n) (hlen:l.length < 4611686018427387904) (hgd:gd=none)
  (h:∀ l':List X,l'.Perm l->l'.Pairwise (fun x y=>lt y x=false)->PWl P ctx ops Q rest ((s.setO id (.row e k (l'.map encD))).putD dst (.tup []))) :
  PWl P ctx ops Q (⟨dst,.call ⟨.value fx,#[x,gx],ats⟩,ty,pos,after,gd⟩::rest) s:=by
 rintro a w ⟨gh,hg⟩;refine wpList_plain hgd fun K hK=>?_
 have hxv:=hg.ev hx;have hob:=hg.objs id _ hl;unfold Oper.wp;rw[xW (o:=⟨dst,.call ⟨.value fx,#[x,gx],ats⟩,ty,pos,after,gd⟩) rfl (Xu hg hfx) he w]
 generalize hv:a.eval x=v at hxv
 have hargs:(#[x,gx]:Array Operand).map a.eval=#[v,.func (.func g) #[] #[]]:=by simp[hv,Xu hg hgx]
 rw[hargs]
 generalize hL:l.map encD=L at hob
 cases hob with
 | rowNil _ _ hgn=>
  have hl0:l=[]:=by simpa using hL
  subst hl0
  cases hxv with
  | row _ _ blk cap hgi=>rw[hgn] at hgi;cases hgi
  | rowNil=>
   refine(hS.nil w).mono fun en w' ⟨hen,hb⟩=>?_
   subst hen;have hsub:Sub ctx s (s.setO id (.row e k ([].map encD))):=Sub.drop rfl (fun i p hp=>hp) (fun j o hj=>by
    simp only[PState.setO,zC] at hj
    split at hj
    ·rename_i ej;subst ej;cases hj;rw[hl]
    ·exact hj)
   obtain⟨g2,hg2⟩:=hsub a w' ⟨gh,hg.below hb⟩;exact hK _ _ (h [] (List.Perm.refl _) List.Pairwise.nil _ _ ⟨g2,hg2.put dst (.tup [] [] rfl (by simp))⟩)
 | row _ _ _ blk' cap' cur hgi hh hlc hcap hcs hkk hr'=>
  cases hxv with
  | rowNil _ hgn=>rw[hgn] at hgi;cases hgi
  | row _ _ blk cap hgi'=>
   rw[hgi] at hgi'
   cases hgi'
   subst hL;subst hn;obtain⟨Z,hZ1,hZ2⟩:=raws (cur:=cur) (hraw w (zZ ctx gh s.objs)) hk l 0 fun i y j d hi hd=>by
    rw[Nat.zero_add];exact hr' i (encD y) j d (by simp[hi]) hd
   have hZl:(Z.map (·.2)).length=l.length:=by rw[<- hZ1];simp
   have hcells:∀ (i:Nat) (y:α) (j:Nat) (u:Value),(Z.map (·.2))[i]?=some y->(enc y)[j]?=some u->cur[i*k+j]?=some u:=by
    intro i y j u hi hu;rw[List.getElem?_map] at hi
    cases hz:Z[i]? with
    | none=>rw[hz] at hi;cases hi
    | some z=>
     rw[hz] at hi;simp only[Option.map_some,Option.some.injEq] at hi;subst hi;have:=(hZ2 i z hz).2.1 j u hu
     rwa [Nat.zero_add] at this
   have hrow:=hS.row w blk' cap' (Z.map (·.2)) e cur hh (by rw[hZl];simpa using hlc) hcs (by rw[hZl];exact hlen) hcells;rw[hZl] at hrow;refine hrow.mono fun en w' ⟨hen,l2,cur',hperm,hsort,hh',hcl,hc',hos,htape,hout,hsz,hother⟩=>?_
   subst hen;obtain⟨Z',hP,hZ'⟩:=yia (·.2) hperm Z rfl;have hmem:∀ z∈Z',R z.1 z.2/\∀ (j:Nat) (d:DV) (u:Value),(encD z.1)[j]?=some d->(enc z.2)[j]?=some u->DRd w (zZ ctx gh s.objs) d u:=fun z hz=>by
    obtain⟨i,hi⟩:=List.mem_iff_getElem?.1 (hP.subset hz);exact⟨(hZ2 i z hi).1,(hZ2 i z hi).2.2⟩
   let l':=Z'.map (·.1)
   have hl'p:l'.Perm l:=by rw[<- hZ1];exact hP.map _
   have hl's:l'.Pairwise (fun x y=>lt y x=false):=by
    rw[<- hZ'] at hsort;rw[List.pairwise_map] at hsort ⊢;refine List.Pairwise.imp_of_mem (fun {p q} hp hq hpq=>?_) hsort;rw[<- hlt _ _ _ _ (hmem q hq).1 (hmem p hp).1];exact hpq
   have hown:=hg.own id _ blk' cap' hl hgi;have hst:zx w w' (zZ ctx gh s.objs):=⟨hsz,fun b ⟨_,h2⟩ hlt=>hother b hlt fun eb=>by subst eb;exact h2 id _ cap' hl hgi⟩
   have hpl:l'.length=l.length:=hl'p.length_eq;have hsetF:∀ b,zZ ctx gh s.objs b->zZ ctx gh s.objs b:=fun _ h=>h
   have hwr:=hg.wrote hl hgi (w':=w') hos htape hout hsz hother hown.2 (ob:=.row e k (l'.map encD)) (.row e k _ blk' cap' cur' hgi hh' (by simpa[hpl] using hlc) hcap (by rw[hcl];exact hcs)
    (fun i cs hi=>by
     rw[List.getElem?_map] at hi
     cases hy:l'[i]? with
     | none=>simp[hy] at hi
     | some y=>simp[hy] at hi;subst hi;exact hk y)
    (fun i cs j d hi hd=>by
     rw[List.getElem?_map] at hi
     cases hy:l'[i]? with
     | none=>simp[hy] at hi
     | some y=>
      simp[hy] at hi;subst hi;simp only[l',List.getElem?_map] at hy
      cases hz:Z'[i]? with
      | none=>rw[hz] at hy;cases hy
      | some z=>
       rw[hz] at hy;simp only[Option.map_some,Option.some.injEq] at hy;subst hy;have hj:j < (enc z.2).length:=by rw[hk2,<- hk z.1];exact(List.getElem?_eq_some_iff.1 hd).1
       have hu:(enc z.2)[j]?=some (enc z.2)[j]:=List.getElem?_eq_getElem hj;refine⟨_,hc' i z.2 j _ (by rw[<- hZ',List.getElem?_map,hz];rfl) hu,?_⟩;exact((hmem z (List.mem_of_getElem? hz)).2 j d _ hd hu).keep hst (fun b hb _=>xL hl b hb)))
   exact hK _ _ (h l' hl'p hl's _ _ ⟨gh,hwr.put dst (.tup [] [] rfl (by simp))⟩)
end
end Go.Ep
namespace Go.Ep
open Go.RowKit
section
variable{P:Program}{ctx:Ctx}{Q:PQ}{s:PState}
variable{dst:Option Tmp}{ty:TypeId}{pos:String}{after:Array Edge}{gd:Option (Nat×Bool)}
theorem LR.strIdx{x i:Operand}{t:TypeId}{b:ByteArray}{k:IntKind}{n y:Int}(hu:P.underlying t=some .string)(hx:s.ev x=some (.d (.v (.string b))))(hi:s.ev i=some (.d (.v (.int k n))))(hy:0<=n/\(vM b)[n.toNat]?=some y) :
  Local P ctx ⟨dst,.index t x i,ty,pos,after,gd⟩ s (s.putD dst (.d (.v (.int .u8 y)))):=
 zD (o:=⟨dst,.index t x i,ty,pos,after,gd⟩) fun a w g hg=>by
  obtain⟨h0,h1⟩:=hy;have hlt:n.toNat < b.size:=by
   have:=(List.getElem?_eq_some_iff.1 h1).1;simpa[vM] using this
  have hb:0<=n/\n < b.size:=⟨h0,by omega⟩
  have hv:((b[n.toNat]'hlt).toNat:Int)=y:=by
   have:=(List.getElem?_eq_some_iff.1 h1).2;simp only[vM,List.getElem_map,Array.getElem_toList] at this;exact this
  refine⟨.int .u8 y,?_,.d (.v _ rfl)⟩;simp only[execOp,Xu hg hx,Xu hg hi,Sem.run_bind,run_index_string w t b k n hu,dif_pos hb,hv,Result.andThen_ok,Sem.run_pure]
end
end Go.Ep
namespace Go.Ep
open Go.RowKit
section
variable{P:Program}{ctx:Ctx}{s:PState}
variable{dst:Option Tmp}{ty:TypeId}{pos:String}{after:Array Edge}{gd:Option (Nat×Bool)}
end
end Go.Ep
namespace Go.Ep
open Go Go.RowKit
section
variable{P:Program}{ctx:Ctx}{Q:PQ}{s:PState}
variable{dst:Option Tmp}{ty:TypeId}{pos:String}{after:Array Edge}{gd:Option (Nat×Bool)}
theorem LR.pieceRow{x lo:Operand}{id n k:Nat}{t e:TypeId}{kx:IntKind}{i:Int}{l:List (List DV)}(hu:P.underlying t=some (.slice e))(hs:∀ w,(sizeOf e).run P w=.ok k w)
  (hx:s.ev x=some (.row id n)) (hl:look s.objs id=some (.row e k l)) (hn:n<=l.length) (hlo:s.ev lo=some (.d (.v (.int kx i)))) (hi:(0:Int)<=i/\i<=(n:Int)) :
  Local P ctx ⟨dst,.slice t x (some lo) none none,ty,pos,after,gd⟩ s (s.putD dst (.pc id i.toNat (n - i.toNat) k)):=
 zD (o:=⟨dst,.slice t x (some lo) none none,ty,pos,after,gd⟩) fun a w g hg=>by
  have h:=hg.ev hx;have hob:=hg.objs id _ hl;have hit:i=(i.toNat:Int):=by omega
  have hle:i.toNat<=n:=by omega
  generalize hv:a.eval x=v at h
  cases h with
  | row _ _ blk cap hgi=>
   cases hob with
   | rowNil _ _ hgn=>rw[hgn] at hgi;cases hgi
   | row _ _ _ blk' cap' cur h' hh hlc hcap hcs hkk hr=>
    rw[hgi] at h'
    cases h'
    refine⟨.slice (if cap=i.toNat then some ⟨blk,0,none⟩ else some ⟨blk,0+i.toNat*k,none⟩) (n - i.toNat) (cap - i.toNat),?_,?_⟩
    ·by_cases hc:cap=i.toNat <;>
     simp[execOp,hv,xz hg hlo,Instr.sliceAt,Instr.slice,Instr.sliceBounds,run_underlying hu,hs,xJ (P:=P) hit hle,Addr.add_lit,Result.andThen,hc]
    ·by_cases h0:n - i.toNat=0
     ·rw[h0];exact .pc0 _ _ _ _ _
     ·rw[if_neg (by omega),Nat.zero_add];exact .pc id _ _ k blk cap hgi (by omega)
  | rowNil _ hgn=>
   have h0:i.toNat=0:=by omega
   refine⟨.slice none 0 0,?_,?_⟩
   ·rw[h0] at hit;simp[execOp,hv,xz hg hlo,Instr.sliceAt,Instr.slice,Instr.sliceBounds,run_underlying hu,hs,xJ (P:=P) hit (show 0<=0 from Nat.le_refl _),Result.andThen]
   ·rw[Nat.zero_sub];exact .pc0 _ _ _ _ _
theorem LR.lenPc{x:Operand}{id i n k:Nat}{t e:TypeId}(hu:P.underlying t=some (.slice e))(hx:s.ev x=some (.pc id i n k)) :
  Local P ctx ⟨dst,.call ⟨.builtin .len,#[x],#[t]⟩,ty,pos,after,gd⟩ s (s.putD dst (.d (.v (.int .i64 n)))):=
 zD (o:=⟨dst,.call ⟨.builtin .len,#[x],#[t]⟩,ty,pos,after,gd⟩) fun a w g hg=>by
  have h:=hg.ev hx;have hE:P.underlying t=some (.slice (P.elem t)):=by simp[Program.elem,hu]
  refine⟨.int .i64 n,?_,.d (.v _ rfl)⟩
  generalize hv:a.eval x=v at h
  cases h <;> simp[execOp,resolve,invoke,builtin,hv,run_len_slice,hE,Result.andThen,goInt]
theorem LR.idxPc{x ix:Operand}{id i m:Nat}{ki:IntKind}{j:Int}{k:Nat}{t e:TypeId}(hu:P.underlying t=some (.slice e))(hs:∀ w,(sizeOf e).run P w=.ok k w)
  (hx:s.ev x=some (.pc id i m k)) (hix:s.ev ix=some (.d (.v (.int ki j)))) (hj:(0:Int)<=j/\j < (m:Int)) :
  Local P ctx ⟨dst,.indexAddr t x ix,ty,pos,after,gd⟩ s (s.putD dst (.rp id (i+j.toNat) 0 k)):=
 zD (o:=⟨dst,.indexAddr t x ix,ty,pos,after,gd⟩) fun a w g hg=>by
  have h:=hg.ev hx
  generalize hv:a.eval x=v at h
  cases h with
  | pc _ _ _ _ blk cap hgi hi=>
   refine⟨.pointer (some ⟨blk,(i+j.toNat)*k+0,none⟩),?_,.rp id _ 0 k blk cap hgi⟩;have:=vj (P:=P) hu hs blk (i*k) m (cap - i) ki j j.toNat (by omega) (by omega) w;rw[show i*k+j.toNat*k=(i+j.toNat)*k+0 by rw[Nat.add_mul,Nat.add_zero]] at this;simp[execOp,hv,xz hg hix,this,Result.andThen]
  | pc0=>omega
theorem LR.clearPc{x:Operand}{id i n k:Nat}{t e:TypeId}{l:List (List DV)}{z:Value}{zs:List Value}(hu:P.underlying t=some (.slice e))(hx:s.ev x=some (.pc id i n k))(hl:look s.objs id=some (.row e k l))
  (hz:∀ w,(zeroValue e).run P w=.ok z w) (hzs:z.cells=zs.toArray) (h1:(zs.all Value.oneCell')=true) (hk:zs.length=k) (hin:i+n<=l.length) (hd:dst=none) :
  Local P ctx ⟨dst,.call ⟨.builtin .clear,#[x],#[t]⟩,ty,pos,after,gd⟩ s (s.setO id (.row e k (l.take i++List.replicate n (zs.map zdv)++l.drop (i+n)))):=by
 subst hd;refine yA (o:=⟨none,.call ⟨.builtin .clear,#[x],#[t]⟩,ty,pos,after,gd⟩) fun a w g hg=>?_
 have h:=hg.ev hx;have hob:=hg.objs id _ hl;have hE:P.underlying t=some (.slice e):=hu
 generalize hv:a.eval x=v at h
 have hnil:n=0->∀ g',Rel ctx (s.setO id (.row e k (l.take i++List.replicate n (zs.map zdv)++l.drop (i+n)))) a w\/g'=g:=by
  intro h0;subst h0;intro g'
  left
  simp only[List.replicate_zero,List.append_nil,Nat.add_zero,List.take_append_drop];refine⟨g,?_⟩;have hlk:∀ j o,look (s.setO id (.row e k l)).objs j=some o↔look s.objs j=some o:=by
   intro j o;simp only[PState.setO];rw[zC]
   by_cases hj:j=id
   ·subst hj;rw[if_pos rfl,hl]
   ·rw[if_neg hj]
  have hF:∀ b,zZ ctx g s.objs b->zZ ctx g (s.setO id (.row e k l)).objs b:=fun b ⟨h1,h2⟩=>⟨h1,fun j o m hj=>h2 j o m ((hlk j o).1 hj)⟩
  have hst:zx w w (zZ ctx g s.objs):=⟨Nat.le_refl _,fun _ _ _=>rfl⟩
  exact⟨hg.defers,hg.size,fun q p hp=>(hg.slots q p hp).keep hst (fun b hb _=>hF b hb) (fun _ _=>rfl),fun j o hj=>(hg.objs j o ((hlk j o).1 hj)).keep hst (fun b hb _=>hF b hb) (fun _ _ _=>rfl) rfl (fun _ _=>rfl),
   fun p q op oq b n m hp hq=>hg.inj p q op oq b n m ((hlk p op).1 hp) ((hlk q oq).1 hq),fun j o b n hj=>hg.own j o b n ((hlk j o).1 hj),hg.os,hg.tape,hg.output,hg.grows,hg.keep⟩
 cases h with
 | pc0 _ _ _ ao c=>
  rcases hnil rfl (fun _=>none) with hr | hr
  ·refine⟨.tuple #[],w,?_,hr⟩
   cases ao <;> simp[execOp,resolve,invoke,builtin,hv,Builtin.clear_,run_underlying hE,Result.andThen]
  ·rcases hnil rfl (fun _=>some (0,0)) with hr2 | hr2
   ·refine⟨.tuple #[],w,?_,hr2⟩
    cases ao <;> simp[execOp,resolve,invoke,builtin,hv,Builtin.clear_,run_underlying hE,Result.andThen]
   ·have:=congrFun (hr.trans hr2.symm) 0;cases this
 | pc _ _ _ _ blk cap hgi hi=>
  by_cases hn0:n=0
  ·have hr:Rel ctx (s.setO id (.row e k (l.take i++List.replicate n (zs.map zdv)++l.drop (i+n)))) a w:=by
    rcases hnil hn0 (fun _=>none) with hr | hr
    ·exact hr
    ·have:=congrFun hr id;rw[hgi] at this;cases this
   subst hn0;refine⟨.tuple #[],w,?_,hr⟩;simp[execOp,resolve,invoke,builtin,hv,Builtin.clear_,run_underlying hE,Result.andThen]
  cases hob with
  | rowNil _ _ hgn=>rw[hgn] at hgi;cases hgi
  | row _ _ _ blk' cap' cur h' hh hlc hcap hcs hkk hr=>
   rw[hgi] at h'
   cases h'
   have hlen:((Builtin.zeroCells z.cells n).toList).length=n*k:=by rw[UQ,hzs];simp[hk]
   have hroom:i*k+n*k<=cur.length:=by
    rw[hcs,<- Nat.add_mul];exact Nat.mul_le_mul_right k hi
   have hz1:∀ u∈(Builtin.zeroCells z.cells n).toList,u.oneCell'=true:=by
    intro u hu;obtain⟨j,hj⟩:=List.getElem?_of_mem hu;have hjl:=(List.getElem?_eq_some_iff.1 hj).1;rw[hlen] at hjl;have hk0:0 < k:=by
     rcases Nat.eq_zero_or_pos k with h | h
     ·subst h;omega
     ·exact h
    rw[hzs] at hj;simp[Builtin.zeroCells,hk,hjl] at hj;have ht:j % k < zs.length:=by rw[hk];exact Nat.mod_lt _ hk0
    rw[List.getElem?_eq_getElem ht] at hj;simp at hj;subst hj;simp at h1;exact h1 _ (List.getElem_mem ht)
   have hrun:=run_storeCells_at P blk (i*k) e (Builtin.zeroCells z.cells n).toList 0 cur.toArray w hh (by simpa[hlen] using hroom) hz1
   let new:List Value:=cur.take (i*k)++(Builtin.zeroCells z.cells n).toList++cur.drop (i*k+n*k)
   have hrun':(storeCells ⟨blk,i*k,none⟩ (Builtin.zeroCells z.cells n).toList).run P w=.ok () (w.setRow blk new.toArray):=by
    simpa[hlen,new] using hrun
   refine⟨.tuple #[],w.setRow blk new.toArray,?_,g,?_⟩
   ·have hn':∃ n',n=n'+1:=⟨n - 1,by omega⟩
    obtain⟨n',rfl⟩:=hn';simp[execOp,resolve,invoke,builtin,hv,Builtin.clear_,run_underlying hE,hz,hrun',Result.andThen]
   ·have hown:=hg.own id _ blk cap hl hgi;have hother:∀ k,k < w.heap.size->k≠blk->(w.setRow blk new.toArray).heap[k]?=w.heap[k]?:=fun k _ hne=>setRow_other w blk k _ hne
    have hst:zx w (w.setRow blk new.toArray) (zZ ctx g s.objs):=⟨by simp,fun b ⟨_,h2⟩ hlt=>hother b hlt fun e=>by subst e;exact h2 id _ cap hl hgi⟩
    refine hg.wrote hl hgi rfl rfl rfl (by simp) hother hown.2 ?_;have hll:(l.take i++List.replicate n (zs.map zdv)++l.drop (i+n)).length=l.length:=by simp;omega
    have hget:∀ t,new[t]?=if t < i*k then cur[t]? else if t < i*k+n*k then (Builtin.zeroCells z.cells n).toList[t - i*k]? else cur[t]?:=by
     intro t;show(cur.take (i*k)++(Builtin.zeroCells z.cells n).toList++cur.drop (i*k+n*k))[t]?=_;rw[List.append_assoc,List.getElem?_append];have l1:(cur.take (i*k)).length=i*k:=by simp;omega
     rw[l1]
     by_cases h3:t < i*k
     ·rw[if_pos h3,if_pos h3];simp[h3]
     ·rw[if_neg h3,if_neg h3,List.getElem?_append,hlen]
      by_cases h4:t - i*k < n*k
      ·rw[if_pos h4,if_pos (by omega)]
      ·rw[if_neg h4,if_neg (by omega),List.getElem?_drop]
       congr 1;omega
    have hlget:∀ q,(l.take i++List.replicate n (zs.map zdv)++l.drop (i+n))[q]?=if q < i then l[q]? else if q < i+n then some (zs.map zdv) else l[q]?:=by
     intro q;rw[List.append_assoc,List.getElem?_append];have l1:(l.take i).length=i:=by simp;omega
     rw[l1]
     by_cases h3:q < i
     ·rw[if_pos h3,if_pos h3];simp[h3]
     ·rw[if_neg h3,if_neg h3,List.getElem?_append];simp only[List.length_replicate]
      by_cases h4:q - i < n
      ·rw[if_pos h4,if_pos (by omega),List.getElem?_replicate,if_pos h4]
      ·rw[if_neg h4,if_neg (by omega),List.getElem?_drop]
       congr 1;omega
    refine .row e k _ blk cap new hgi (xZ hh) (by rw[hll];exact hlc) hcap (by show(cur.take (i*k)++(Builtin.zeroCells z.cells n).toList++cur.drop (i*k+n*k)).length=_;rw[List.length_append,List.length_append,hlen,List.length_take,List.length_drop,Nat.min_eq_left (by omega),<- hcs];omega) (fun q cs hq=>?_) (fun q cs t x hq hx=>?_)
    ·rw[hlget] at hq
     split at hq
     ·exact hkk q cs hq
     ·split at hq
      ·simp only[Option.some.injEq] at hq;subst hq;simpa using hk
      ·exact hkk q cs hq
    ·have hcsk:cs.length=k:=by
      rw[hlget] at hq
      split at hq
      ·exact hkk q cs hq
      ·split at hq
       ·simp only[Option.some.injEq] at hq;subst hq;simpa using hk
       ·exact hkk q cs hq
     have htk:t < k:=by rw[<- hcsk];exact(List.getElem?_eq_some_iff.1 hx).1
     rw[hlget] at hq;rw[hget]
     by_cases h3:q < i
     ·rw[if_pos h3] at hq;have:q*k+t < i*k:=by
       have:=Nat.mul_le_mul_right k (show q+1<=i by omega);rw[Nat.add_mul,Nat.one_mul] at this;omega
      rw[if_pos this];obtain⟨u,h5,h6⟩:=hr q cs t x hq hx;exact⟨u,h5,h6.keep hst (fun b hb _=>xL hl b hb)⟩
     ·rw[if_neg h3] at hq;have h3':¬ q*k+t < i*k:=by
       have:=Nat.mul_le_mul_right k (show i<=q by omega);omega
      rw[if_neg h3']
      by_cases h4:q < i+n
      ·rw[if_pos h4] at hq;have:q*k+t < i*k+n*k:=by
        have:=Nat.mul_le_mul_right k (show q+1<=i+n by omega);rw[Nat.add_mul,Nat.one_mul,Nat.add_mul] at this;omega
       rw[if_pos this];simp only[Option.some.injEq] at hq;subst hq;have htz:t < zs.length:=by rw[hk];exact htk
       rw[List.getElem?_map,List.getElem?_eq_getElem htz] at hx;simp only[Option.map_some,Option.some.injEq] at hx;subst hx;refine⟨zs[t],?_,QP _ _ _ (by simp at h1;exact h1 _ (List.getElem_mem htz))⟩;have e1:q*k+t - i*k=(q - i)*k+t:=by rw[Nat.sub_mul];have:=Nat.mul_le_mul_right k (show i<=q by omega);omega
       have hlt:(q - i)*k+t < n*k:=by rw[<- e1];omega
       have e2:((q - i)*k+t) % k=t:=by rw[Nat.mul_comm,Nat.mul_add_mod,Nat.mod_eq_of_lt htk]
       rw[e1,hzs];simp[Builtin.zeroCells,hlt,hk,e2];rw[List.getElem?_eq_getElem htz];rfl
      ·rw[if_neg h4] at hq;have:¬ q*k+t < i*k+n*k:=by
        have:=Nat.mul_le_mul_right k (show i+n<=q by omega);rw[Nat.add_mul] at this;omega
       rw[if_neg this];obtain⟨u,h5,h6⟩:=hr q cs t x hq hx;exact⟨u,h5,h6.keep hst (fun b hb _=>xL hl b hb)⟩
variable{α:Type}{enc:α->List DV}{L:List α}
theorem LR.pieceRowT{x lo:Operand}{id n k:Nat}{t e:TypeId}{kx:IntKind}{i:Int}(hu:P.underlying t=some (.slice e))(hs:∀ w,(sizeOf e).run P w=.ok k w)
  (hx:s.ev x=some (.row id n)) (hm:n=L.length) (hl:look s.objs id=some (.row e k (L.map enc))) (hlo:s.ev lo=some (.d (.v (.int kx i)))) (hi:(0:Int)<=i/\i<=(L.length:Int)) :
  Local P ctx ⟨dst,.slice t x (some lo) none none,ty,pos,after,gd⟩ s (s.putD dst (.pc id i.toNat (L.length - i.toNat) k)):=by
 subst hm;exact LR.pieceRow hu hs hx hl (by simp) hlo hi
theorem LR.clearPcT{x:Operand}{id i n k:Nat}{t e:TypeId}{z:α}{zv:Value}{zs:List Value}(hu:P.underlying t=some (.slice e))(hx:s.ev x=some (.pc id i n k))(hl:look s.objs id=some (.row e k (L.map enc)))
  (hz:∀ w,(zeroValue e).run P w=.ok zv w) (hzs:zv.cells=zs.toArray) (h1:(zs.all Value.oneCell')=true) (hk:zs.length=k) (he:zs.map zdv=enc z) (hin:i+n<=L.length) (hd:dst=none) :
  Local P ctx ⟨dst,.call ⟨.builtin .clear,#[x],#[t]⟩,ty,pos,after,gd⟩ s (s.setO id (.row e k ((L.take i++List.replicate n z++L.drop (i+n)).map enc))):=by
 have:=LR.clearPc (P:=P) (ctx:=ctx) (dst:=dst) (ty:=ty) (pos:=pos) (after:=after) (gd:=gd) hu hx hl hz hzs h1 hk (by simpa using hin) hd;rw[he,<- List.map_take,<- List.map_drop,<- List.map_replicate,<- List.map_append,<- List.map_append] at this;exact this
end
end Go.Ep
namespace Go.Proofs
open Go.Ep Tryz
set_option maxHeartbeats 1000000
set_option maxRecDepth 100000
set_option linter.unusedVariables false
set_option linter.unusedSimpArgs false
theorem zba(l1:List EV)(most2:Int)(r0:Bool)(h:(VV l1 most2).wp (·=r0)):PFun prog 4 [.d (.sl (List.map EV.e l1)),.d (.v (.int .i64 most2))] (.d (.v (.bool r0))):=by
 refine fI (sl:=[(0,_),(1,_)]) func4 rfl ntmps4 rfl rfl ?_;intro ctx hK;refine wQ<|wR<|wa ?_;refine wN<|wQ<|wQ<|wR<|wm ?_;refine ws (lM (enc:=EV.e) (L:=l1) underlying32 rfl)<|wm ?_;refine ws (LR.gtr rfl rfl)<|wN ?_;refine xD h rfl (fun _ h=>?_) (fun _ h=>?_)
 ·refine wQ<|wR<|wa ?_;refine wN<|wX ?_;cases h;exact xT
 ·refine wK<|wQ<|wQ<|wR<|wa ?_;refine wN ?_;refine PWc.jnX (zH h) (fun(_:Unit) (_:Unit)=>⟨32,[],[]⟩) (fun h=>?_) ?_
  ·refine wB<|wM (fun(i21:Int) (_:Unit)=>⟨32,[(0,.d (.sl (List.map EV.e l1))),(5,.d (.v (.int .i64 i21)))],[]⟩) () h (sP) ?_;rintro N i21 _ h;refine wQ<|wQ<|wR<|wm ?_;refine wm ?_;refine ws (lM (enc:=EV.e) (L:=l1) underlying32 rfl)<|ws (LR.lss rfl rfl)<|wN ?_;refine xD h rfl (fun _ h=>?_) (fun _ h=>?_)
   ·refine wK<|wQ<|wB<|wQ ?_;refine wJ (zH h) (fun(v23:Bool) (_:Unit)=>⟨32,[(0,.d (.sl (List.map EV.e l1))),(5,.d (.v (.int .i64 i21))),(31,.d (.v (.bool v23)))],[]⟩) (fun h=>?_) ?_
    ·refine wR<|wm ?_;refine wm ?_;obtain⟨x24,hy25,h⟩:=yK h;refine ws (iX (enc:=EV.e) (L:=l1) (y:=x24) underlying32 sizeOf28 rfl rfl hy25 (fun _=>rfl))<|ws (fE underlying28 rfl sizeOf26 (by decide) rfl rfl)<|ws (LR.loadEp isAgg26 rfl rfl)<|ws (lM (enc:=DT.e) (L:=x24.kills) underlying26 rfl)<|ws (LR.gtr rfl rfl)<|wm ?_;refine xG (d:=23) h rfl (fun _ h=>?_) (fun _ h=>?_)
     ·refine wf<|wf<|wf<|wf<|wf<|wf<|wy (tl:=[(0,_),(5,_),(23,_),(24,_),(25,_),(26,_),(27,_),(28,_),(29,_)]) (to:=[]) ?_;refine wf<|ws (pT rfl rfl)<|wN ?_;exact⟨true,(),h,sP⟩
     ·refine wt (mV rfl)<|wt (mV rfl) ?_;obtain⟨x27,hy28,h⟩:=yK h;refine wt (iX (enc:=EV.e) (L:=l1) (y:=x27) underlying32 sizeOf28 rfl rfl hy28 (fun _=>rfl))<|wt (fE underlying28 rfl sizeOf9 (by decide) rfl rfl)<|wt (LR.loadEp isAgg9 rfl rfl)<|wt (LR.lenStr underlying9 rfl)<|wy (tl:=[(0,_),(5,_),(23,_),(24,_),(25,_),(26,_),(27,_),(28,_),(29,_)]) (to:=[]) ?_;refine wt (LR.gtr rfl rfl)<|ws (pF rfl rfl)<|wN ?_;exact⟨(decide (200 < (ByteArray.size x27.text:Int))),(),h,sP⟩
    ·rintro v23 _ h;refine xD h rfl (fun _ h=>?_) (fun _ h=>?_)
     ·refine wQ<|wR<|wa ?_;refine wN<|wX ?_;cases h;exact xT
     ·refine wK<|wR<|wm ?_;refine ws (LR.addW rfl rfl)<|wa ?_;refine wN ?_;exact⟨(IntKind.i64.wrap (i21+1)),(),h,sP⟩
   ·refine wZ ?_;exact⟨(),(),h,sP⟩
  ·rintro _ _ h;refine wQ<|wR<|wa ?_;refine wN<|wX ?_;cases h;exact xT
theorem zca(c1:List PT)(r0:Bool)(h:(jG c1).wp (·=r0)):PFun prog 5 [.d (.sl (List.map PT.e c1))] (.d (.v (.bool r0))):=by
 refine fI (sl:=[(0,_)]) func5 rfl ntmps5 rfl rfl ?_;intro ctx hK;refine wQ<|wR<|wa ?_;refine wN<|wQ<|wQ<|wR<|wm ?_;refine ws (lM (enc:=PT.e) (L:=c1) underlying30 rfl)<|ws (LR.gtr rfl rfl)<|wN ?_;refine xD h rfl (fun _ h=>?_) (fun _ h=>?_)
 ·refine wQ<|wR<|wa ?_;refine wN<|wX ?_;cases h;exact xT
 ·refine wK<|wQ<|wQ<|wR<|wa ?_;refine wN ?_;refine PWc.jnX (zH h) (fun(_:Unit) (_:Unit)=>⟨20,[],[]⟩) (fun h=>?_) ?_
  ·refine wB<|wM (fun(i12:Int) (_:Unit)=>⟨20,[(0,.d (.sl (List.map PT.e c1))),(3,.d (.v (.int .i64 i12)))],[]⟩) () h (sP) ?_;rintro N i12 _ h;refine wQ<|wQ<|wR<|wm ?_;refine wm ?_;refine ws (lM (enc:=PT.e) (L:=c1) underlying30 rfl)<|ws (LR.lss rfl rfl)<|wN ?_;refine xD h rfl (fun _ h=>?_) (fun _ h=>?_)
   ·refine wK<|wQ<|wB<|wQ<|wR<|wm ?_;refine wm ?_;obtain⟨x14,hy15,h⟩:=yK h;refine ws (iX (enc:=PT.e) (L:=c1) (y:=x14) underlying30 sizeOf56 rfl rfl hy15 (fun _=>rfl))<|ws (fE underlying56 rfl sizeOf54 (by decide) rfl rfl)<|ws (LR.loadEp isAgg54 rfl rfl)<|ws (lM (enc:=RN.e) (L:=x14.runs) underlying54 rfl)<|ws (LR.gtr rfl rfl)<|wN ?_;refine xD h rfl (fun _ h=>?_) (fun _ h=>?_)
    ·refine wQ<|wR<|wa ?_;refine wN<|wX ?_;cases h;exact xT
    ·refine wK<|wR<|wm ?_;refine ws (LR.addW rfl rfl)<|wa ?_;refine wN ?_;exact⟨(IntKind.i64.wrap (i12+1)),(),h,sP⟩
   ·refine wZ ?_;exact⟨(),(),h,sP⟩
  ·rintro _ _ h;refine wQ<|wR<|wa ?_;refine wN<|wX ?_;cases h;exact xT
theorem yZ(s1:List DT)(r0:List DT)(h:(zt s1).wp (·=r0)):PRow prog 86 [.d (.sl (List.map DT.e s1))] 25 2 (List.map DT.e r0):=by
 refine PRow.intro (sl:=[(0,_)]) func86 rfl ntmps86 rfl rfl ?_;intro ctx hK;refine wQ<|wR<|ws (aR 25 2 rfl)<|wN<|wQ<|wQ<|wR<|wm ?_;replace h:=iNil h;refine PWl.eqlNilT (enc:=DT.e) (L:=s1) underlying26 rfl rfl (fun b2 hy3=>?_);replace h:=h b2 hy3;refine wN ?_;refine xD h rfl (fun _ h=>?_) (fun _ h=>?_)
 ·refine wQ<|wR<|wy (tl:=[(0,_),(3,_),(4,_)]) (to:=[]) ?_;refine ws (aR 25 2 rfl)<|wN<|wX ?_;cases h;exact⟨.inr rfl,2,rfl,.inr ⟨2,_,rfl,(by first | (simp;done) | (simp;omega) | omega),rfl⟩⟩
 ·refine wK<|wQ<|wR<|ws (LR.buildSlice [] uO rfl rfl (.nil) (by decide) (by decide) rfl)<|wm ?_;obtain⟨hy5,h⟩:=zp h;refine ws (LR.appT (enc:=DT.e) (L:=([]:List DT)) (R:=s1) [5] uO underlying26 rfl (by first | (simp;done) | (simp;omega) | omega) rfl (Src.slT (enc:=DT.e) (R:=s1) rfl (fun _=>rfl)) (fun _=>rfl) hy5 rfl rfl) ?_;refine wy (tl:=[(0,_),(3,_),(4,_),(6,_),(7,_)]) (to:=[(5,_)]) ?_;refine wa ?_;refine wN<|wX ?_;cases h;exact⟨.inr rfl,2,rfl,.inr ⟨5,_,rfl,(by simp),rfl⟩⟩
theorem xv(e1:EV)(r0:EV)(h:(yP e1).wp (·=r0)):PFun prog 63 [.agg (List.map .d (EV.e e1))] (.agg (List.map .d (EV.e r0))):=by
 refine fI (sl:=[(0,_)]) func63 rfl ntmps63 rfl rfl ?_;intro ctx hK;refine wQ<|wR<|ws (LR.box rfl rfl rfl rfl)<|ws (LR.allocZ (cs:=[_,_,_,_,_,_,_]) zeroValue28 rfl rfl rfl rfl)<|wN<|wQ<|wR<|ws (fR underlying28 rfl sizeOf26 (by decide) rfl rfl)<|ws (lD isAgg26 rfl rfl rfl) ?_;obtain⟨v2,hy3,h⟩:=za h;refine ws (LR.rowN (yZ e1.kills v2 hy3) rfl call86 rfl rfl rfl rfl)<|ws (fR underlying28 rfl sizeOf26 (by decide) rfl rfl)<|PWl.frz [5] hK (.cons rfl<|.nil) rfl (by simp) ?_;refine ws (sB (ns:=[_,_,_,_,_,_,_]) sizeOf26 rfl rfl rfl rfl rfl rfl rfl)<|wN<|wQ<|wR<|ws (lA (ps:=[_,_,_,_,_,_,_]) isAgg28 sizeOf28 rfl rfl rfl rfl)<|ws (sB (ns:=[_,_,_,_,_,_,_]) sizeOf28 rfl rfl rfl rfl rfl rfl rfl)<|wN<|wX ?_;cases h;exact⟨.inr rfl,_,.cons (.agg isAgg28 sizeOf28 rfl rfl rfl rfl)<|.nil,rfl⟩
theorem vu(x1:Int)(r0:Bool)(h:(xa x1).wp (·=r0)):PFun prog 104 [.d (.v (.int .u64 x1))] (.d (.v (.bool r0))):=by
 refine fI (sl:=[(0,_)]) func104 rfl ntmps104 rfl rfl ?_;intro ctx hK;refine wQ<|wR<|wa ?_;refine wN<|wQ<|wR<|wm ?_;refine wm ?_;refine ws (nQ rfl rfl)<|wa ?_;refine wN<|wX ?_;cases h;exact xT
theorem vA(x1:Int)(y2:Int)(r0:Int)(h:(yd x1 y2).wp (·=r0)):PFun prog 84 [.d (.v (.int .u64 x1)),.d (.v (.int .u64 y2))] (.d (.v (.int .i64 r0))):=by
 refine fI (sl:=[(0,_),(1,_)]) func84 rfl ntmps84 rfl rfl ?_;intro ctx hK;refine wQ<|wR<|wa ?_;refine wN<|wQ<|wR<|wm ?_;obtain⟨v3,hy4,h⟩:=za h;refine xN (vu x1 v3 hy4) call104<|wa ?_;refine wN<|wQ<|wR<|wm ?_;obtain⟨v5,hy6,h⟩:=za h;refine xN (vu y2 v5 hy6) call104<|wa ?_;refine wN<|wQ<|wQ<|wR<|wm ?_;refine wN ?_;refine xD h rfl (fun _ h=>?_) (fun _ h=>?_)
 ·refine wQ<|wQ<|wR<|wm ?_;refine wN ?_;refine xD h rfl (fun _ h=>?_) (fun _ h=>?_)
  ·refine wQ<|wR<|wa ?_;refine wN<|wX ?_;cases h;exact xT
  ·refine wK<|wQ<|wR<|wa ?_;refine wN<|wX ?_;cases h;exact xT
 ·refine wK<|wQ<|wQ<|wR<|wm ?_;refine wN ?_;refine xD h rfl (fun _ h=>?_) (fun _ h=>?_)
  ·refine wQ<|wR<|wa ?_;refine wN<|wX ?_;cases h;exact xT
  ·refine wK<|wQ<|wQ<|wR<|wm ?_;refine wm ?_;refine ws (LR.lss rfl rfl)<|wN ?_;refine xD h rfl (fun _ h=>?_) (fun _ h=>?_)
   ·refine wQ<|wR<|wa ?_;refine wN<|wX ?_;cases h;exact xT
   ·refine wK<|wQ<|wQ<|wR<|wm ?_;refine wm ?_;refine ws (LR.gtr rfl rfl)<|wN ?_;refine xD h rfl (fun _ h=>?_) (fun _ h=>?_)
    ·refine wQ<|wR<|wa ?_;refine wN<|wX ?_;cases h;exact xT
    ·refine wK<|wQ<|wR<|wa ?_;refine wN<|wX ?_;cases h;exact xT
theorem vv(x1:Int)(r0:Bool)(h:(xb x1).wp (·=r0)):PFun prog 107 [.d (.v (.int .u16 x1))] (.d (.v (.bool r0))):=by
 refine fI (sl:=[(0,_)]) func107 rfl ntmps107 rfl rfl ?_;intro ctx hK;refine wQ<|wR<|wa ?_;refine wN<|wQ<|wR<|wm ?_;refine wm ?_;refine ws (nQ rfl rfl)<|wa ?_;refine wN<|wX ?_;cases h;exact xT
theorem Zk(x1:Int)(y2:Int)(r0:Int)(h:(xH x1 y2).wp (·=r0)):PFun prog 91 [.d (.v (.int .u16 x1)),.d (.v (.int .u16 y2))] (.d (.v (.int .i64 r0))):=by
 refine fI (sl:=[(0,_),(1,_)]) func91 rfl ntmps91 rfl rfl ?_;intro ctx hK;refine wQ<|wR<|wa ?_;refine wN<|wQ<|wR<|wm ?_;obtain⟨v3,hy4,h⟩:=za h;refine xN (vv x1 v3 hy4) call107<|wa ?_;refine wN<|wQ<|wR<|wm ?_;obtain⟨v5,hy6,h⟩:=za h;refine xN (vv y2 v5 hy6) call107<|wa ?_;refine wN<|wQ<|wQ<|wR<|wm ?_;refine wN ?_;refine xD h rfl (fun _ h=>?_) (fun _ h=>?_)
 ·refine wQ<|wQ<|wR<|wm ?_;refine wN ?_;refine xD h rfl (fun _ h=>?_) (fun _ h=>?_)
  ·refine wQ<|wR<|wa ?_;refine wN<|wX ?_;cases h;exact xT
  ·refine wK<|wQ<|wR<|wa ?_;refine wN<|wX ?_;cases h;exact xT
 ·refine wK<|wQ<|wQ<|wR<|wm ?_;refine wN ?_;refine xD h rfl (fun _ h=>?_) (fun _ h=>?_)
  ·refine wQ<|wR<|wa ?_;refine wN<|wX ?_;cases h;exact xT
  ·refine wK<|wQ<|wQ<|wR<|wm ?_;refine wm ?_;refine ws (LR.lss rfl rfl)<|wN ?_;refine xD h rfl (fun _ h=>?_) (fun _ h=>?_)
   ·refine wQ<|wR<|wa ?_;refine wN<|wX ?_;cases h;exact xT
   ·refine wK<|wQ<|wQ<|wR<|wm ?_;refine wm ?_;refine ws (LR.gtr rfl rfl)<|wN ?_;refine xD h rfl (fun _ h=>?_) (fun _ h=>?_)
    ·refine wQ<|wR<|wa ?_;refine wN<|wX ?_;cases h;exact xT
    ·refine wK<|wQ<|wR<|wa ?_;refine wN<|wX ?_;cases h;exact xT
theorem zda(a1:DT)(b2:DT)(r0:Int)(h:(jH a1 b2).wp (·=r0)):PFun prog 69 [.agg (List.map .d (DT.e a1)),.agg (List.map .d (DT.e b2))] (.d (.v (.int .i64 r0))):=by
 refine fI (sl:=[(0,_),(1,_)]) func69 rfl ntmps69 rfl rfl ?_;intro ctx hK;refine wQ<|wR<|ws (LR.box rfl rfl rfl rfl)<|ws (LR.box rfl rfl rfl rfl)<|wa ?_;refine wN<|wQ<|wQ<|wR<|ws (fR underlying25 rfl sizeOf22 (by decide) rfl rfl)<|ws (lD isAgg22 rfl rfl rfl)<|ws (fR underlying25 rfl sizeOf22 (by decide) rfl rfl)<|ws (lD isAgg22 rfl rfl rfl) ?_;obtain⟨v3,hy4,h⟩:=za h;refine xN (Zk a1.dev b2.dev v3 hy4) call91<|wa ?_;refine wN<|wQ<|wR<|wm ?_;refine ws (nQ rfl rfl)<|wN ?_;refine xD h rfl (fun _ h=>?_) (fun _ h=>?_)
 ·refine wQ<|wR<|wm ?_;refine wa ?_;refine wN<|wX ?_;cases h;exact xT
 ·refine wK<|wQ<|wR<|ws (fR underlying25 rfl sizeOf23 (by decide) rfl rfl)<|ws (lD isAgg23 rfl rfl rfl)<|ws (fR underlying25 rfl sizeOf23 (by decide) rfl rfl)<|ws (lD isAgg23 rfl rfl rfl) ?_;obtain⟨v6,hy7,h⟩:=za h;refine xN (vA a1.n b2.n v6 hy7) call84<|wa ?_;refine wN<|wX ?_;cases h;exact xT
theorem wc(d1:DT)(r0:Bool)(h:(xM d1).wp (·=r0)):PFun prog 51 [.agg (List.map .d (DT.e d1))] (.d (.v (.bool r0))):=by
 refine fI (sl:=[(0,_)]) func51 rfl ntmps51 rfl rfl ?_;intro ctx hK;refine wQ<|wR<|ws (LR.box rfl rfl rfl rfl)<|wa ?_;refine wN<|wQ ?_;refine wJ (zH h) (fun(v2:Bool) (_:Unit)=>⟨16,[(2,.d (.v (.bool v2)))],[]⟩) (fun h=>?_) ?_
 ·refine wR<|ws (fR underlying25 rfl sizeOf22 (by decide) rfl rfl)<|ws (lD isAgg22 rfl rfl rfl)<|ws (LR.gtr rfl rfl)<|wm ?_;refine xG (d:=6) h rfl (fun _ h=>?_) (fun _ h=>?_)
  ·refine wt (fR underlying25 rfl sizeOf23 (by decide) rfl rfl)<|wt (lD isAgg23 rfl rfl rfl)<|wt (LR.gtr rfl rfl)<|ws (pT rfl rfl)<|wm ?_;refine xG (d:=11) h rfl (fun _ h=>?_) (fun _ h=>?_)
   ·refine wt (fR underlying25 rfl sizeOf23 (by decide) rfl rfl)<|wt (lD isAgg23 rfl rfl rfl)<|wt (LR.leq rfl rfl)<|ws (pT rfl rfl)<|wa ?_;refine wN ?_;exact⟨(decide (d1.n<=281474976710655)),(),h,sP⟩
   ·refine wf<|wf<|wf<|ws (pF rfl rfl)<|wa ?_;refine wN ?_;exact⟨false,(),h,sP⟩
  ·refine wf<|wf<|wf<|ws (pF rfl rfl)<|wm ?_;refine wf<|wf<|wf<|ws (pF rfl rfl)<|wa ?_;refine wN ?_;exact⟨false,(),h,sP⟩
 ·rintro v2 _ h;refine wX ?_;cases h;exact xT
theorem UI(v1:Int)(r0:Int×Int)(h:(ZB v1).wp (·=r0)):PFun prog 80 [.d (.v (.int .u64 v1))] (.tup [.d (.v (.int .u16 r0.1)),.d (.v (.int .u64 r0.2))]):=by
 refine fI (sl:=[(0,_)]) func80 rfl ntmps80 rfl rfl ?_;intro ctx hK;refine wQ<|wR<|wa ?_;refine wa ?_;refine wN<|wQ<|wR<|wm ?_;refine ws (LR.shr rfl rfl (by decide) rfl) ?_;refine ws (LR.convInt underlying22 (by rw[underlying23];rfl) rfl rfl) ?_;refine wm ?_;refine ws (LR.and rfl rfl)<|wa ?_;refine wa ?_;refine wN<|wX ?_;cases h;exact⟨.inr rfl,_,.cons (.tmp rfl rfl)<|.cons (.tmp rfl rfl)<|.nil,rfl⟩
theorem jN(v1:Int)(r0:DT×Bool)(h:(YF v1).wp (·=r0)):PFun prog 50 [.d (.v (.int .u64 v1))] (.tup [.agg (List.map .d (DT.e r0.1)),.d (.v (.bool r0.2))]):=by
 refine fI (sl:=[(0,_)]) func50 rfl ntmps50 rfl rfl ?_;intro ctx hK;refine wQ<|wR<|ws (LR.allocZ (cs:=[_,_]) zeroValue25 rfl rfl rfl rfl)<|wa ?_;refine wN<|wQ<|wR<|wm ?_;obtain⟨v2,hy3,h⟩:=za h;refine xN (UI v1 v2 hy3) call80<|wm ?_;refine ws (LR.extract rfl rfl)<|ws (LR.extract rfl rfl)<|wa ?_;refine wa ?_;refine wN<|wQ<|wR<|wm ?_;refine wm ?_;refine ws (LR.build (ns:=[_,_]) Zf rfl rfl rfl)<|ws (LR.allocZ (cs:=[_,_]) zeroValue25 rfl rfl rfl rfl)<|ws (sB (ns:=[_,_]) sizeOf25 rfl rfl rfl rfl rfl rfl rfl)<|wN<|wQ<|wQ<|wR<|ws (lA (ps:=[_,_]) isAgg25 sizeOf25 rfl rfl rfl rfl) ?_;obtain⟨v4,hy5,h⟩:=za h;refine xN (wc (⟨v2.1,v2.2⟩:DT) v4 hy5) call51<|ws (LR.not rfl)<|wN ?_;refine xD h rfl (fun _ h=>?_) (fun _ h=>?_)
 ·refine wQ<|wR<|ws (LR.build (ns:=[_,_]) Zf rfl rfl rfl)<|ws (sB (ns:=[_,_]) sizeOf25 rfl rfl rfl rfl rfl rfl rfl)<|wa ?_;refine wN<|wX ?_;cases h;exact⟨.inr rfl,_,.cons (.agg isAgg25 sizeOf25 rfl rfl rfl rfl)<|.cons (.tmp rfl rfl)<|.nil,rfl⟩
 ·refine wK<|wQ<|wR<|ws (lA (ps:=[_,_]) isAgg25 sizeOf25 rfl rfl rfl rfl)<|ws (sB (ns:=[_,_]) sizeOf25 rfl rfl rfl rfl rfl rfl rfl)<|wa ?_;refine wN<|wX ?_;cases h;exact⟨.inr rfl,_,.cons (.agg isAgg25 sizeOf25 rfl rfl rfl rfl)<|.cons (.tmp rfl rfl)<|.nil,rfl⟩
theorem jO(f1:Int)(r0:Bool)(h:(YG f1).wp (·=r0)):PFun prog 52 [.d (.v (.int .u8 f1))] (.d (.v (.bool r0))):=by
 refine fI (sl:=[(0,_)]) func52 rfl ntmps52 rfl rfl ?_;intro ctx hK;refine wQ<|wR<|wa ?_;refine wN<|wQ ?_;refine wJ (zH h) (fun(v2:Bool) (_:Unit)=>⟨9,[(2,.d (.v (.bool v2)))],[]⟩) (fun h=>?_) ?_
 ·refine wR<|wm ?_;refine ws (LR.geq rfl rfl)<|wm ?_;refine xG (d:=5) h rfl (fun _ h=>?_) (fun _ h=>?_)
  ·refine wt (mV rfl)<|wt (LR.leq rfl rfl)<|ws (pT rfl rfl)<|wa ?_;refine wN ?_;exact⟨(decide (f1<=5)),(),h,sP⟩
  ·refine wf<|wf<|ws (pF rfl rfl)<|wa ?_;refine wN ?_;exact⟨false,(),h,sP⟩
 ·rintro v2 _ h;refine wX ?_;cases h;exact xT
theorem jP(s1:ByteArray)(r0:Bool)(h:(YH s1).wp (·=r0)):PFun prog 53 [.d (.v (.string s1))] (.d (.v (.bool r0))):=by
 refine fI (sl:=[(0,_)]) func53 rfl ntmps53 rfl rfl ?_;intro ctx hK;refine wQ<|wR<|wa ?_;refine wN<|wQ<|wQ<|wR<|wm ?_;refine ws (LR.lenStr underlying9 rfl)<|ws (LR.gtr rfl rfl)<|wN ?_;refine xD h rfl (fun _ h=>?_) (fun _ h=>?_)
 ·refine wQ<|wR<|wa ?_;refine wN<|wX ?_;cases h;exact xT
 ·refine wK<|wQ<|wQ<|wR<|wm ?_;refine ws (LR.lenStr underlying9 rfl)<|wm ?_;refine wN ?_;refine PWc.jnX (zH h) (fun(_:Unit) (_:Unit)=>⟨23,[],[]⟩) (fun h=>?_) ?_
  ·refine wB<|wM (fun(v20:Int) (_:Unit)=>⟨23,[(0,.d (.v (.string s1))),(8,.d (.v (.int .i64 (ByteArray.size s1:Int)))),(9,.d (.v (.int .i64 v20)))],[]⟩) () h (sP) ?_;rintro N v20 _ h;refine wQ<|wR<|ws (LR.lss rfl rfl)<|wN<|wQ ?_;refine xD h rfl (fun _ h=>?_) (fun _ h=>?_)
   ·refine wK<|wQ<|wB<|wQ<|wR<|wm ?_;refine wa ?_;refine wN<|wQ ?_;refine wJ (zH h) (fun(v22:Bool) (_:Unit)=>⟨23,[(0,.d (.v (.string s1))),(8,.d (.v (.int .i64 (ByteArray.size s1:Int)))),(9,.d (.v (.int .i64 v20))),(21,.d (.v (.bool v22)))],[]⟩) (fun h=>?_) ?_
    ·refine wR<|wm ?_;refine wm ?_;obtain⟨b23,hy24,h⟩:=yK h;refine ws (LR.strIdx underlying9 rfl rfl hy24)<|ws (LR.lss rfl rfl)<|wm ?_;refine xG (d:=16) h rfl (fun _ h=>?_) (fun _ h=>?_)
     ·refine wf<|wf<|wf<|wf<|ws (pT rfl rfl)<|wN ?_;exact⟨true,(),h,sP⟩
     ·refine wt (mV rfl)<|wt (mV rfl) ?_;obtain⟨b26,hy27,h⟩:=yK h;refine wt (LR.strIdx underlying9 rfl rfl hy27)<|wt (LR.gtr rfl rfl)<|ws (pF rfl rfl)<|wN ?_;exact⟨(decide (126 < b26)),(),h,sP⟩
    ·rintro v22 _ h;refine xD h rfl (fun _ h=>?_) (fun _ h=>?_)
     ·refine wQ<|wR<|wa ?_;refine wN<|wX ?_;cases h;exact xT
     ·refine wK<|wR<|ws (LR.addW rfl rfl)<|wm ?_;refine wN ?_;exact⟨(IntKind.i64.wrap (v20+1)),(),h,sP⟩
   ·refine wZ ?_;exact⟨(),(),h,sP⟩
  ·rintro _ _ h;refine wQ<|wR<|wa ?_;refine wN<|wX ?_;cases h;exact xT
theorem jQ(l1:List DT)(r0:Bool)(h:(YI l1).wp (·=r0)):PFun prog 54 [.d (.sl (List.map DT.e l1))] (.d (.v (.bool r0))):=by
 refine fI (sl:=[(0,_)]) func54 rfl ntmps54 rfl rfl ?_;intro ctx hK;refine wQ<|wR<|wa ?_;refine wN<|wQ<|wQ<|wR<|wm ?_;refine ws (lM (enc:=DT.e) (L:=l1) underlying26 rfl)<|wm ?_;refine wN ?_;refine PWc.jnX (zH h) (fun(_:Unit) (_:Unit)=>⟨25,[],[]⟩) (fun h=>?_) ?_
 ·refine wB<|wM (fun(v23:Int) (_:Unit)=>⟨25,[(0,.d (.sl (List.map DT.e l1))),(5,.d (.v (.int .i64 (l1.length:Int)))),(6,.d (.v (.int .i64 v23)))],[]⟩) () h (sP) ?_;rintro N v23 _ h;refine wQ<|wR<|ws (LR.lss rfl rfl)<|wN<|wQ ?_;refine xD h rfl (fun _ h=>?_) (fun _ h=>?_)
  ·refine wK<|wQ<|wB<|wQ<|wR<|wm ?_;refine wa ?_;refine wN<|wQ ?_;refine wJ (zH h) (fun(v25:Bool) (_:Unit)=>⟨25,[(0,.d (.sl (List.map DT.e l1))),(5,.d (.v (.int .i64 (l1.length:Int)))),(6,.d (.v (.int .i64 v23))),(23,.d (.v (.bool v25)))],[]⟩) (fun h=>?_) ?_
   ·refine wD (by kernel_rfl) (by kernel_rfl)<|qm ?_;refine qs (fun _ U W=>LR.gtr U U)<|qm ?_;refine xQ (d:=11) h rfl (fun _ h=>?_) (fun _ h=>?_)
    ·refine qt (fun _ U W=>mV U) ?_;refine qt (fun _ U W=>mV U) ?_;refine qt (fun _ U W=>LR.subW U U) ?_;obtain⟨x27,hy28,h⟩:=yK h;refine qt (fun _ U W=>iX (enc:=DT.e) (L:=l1) (y:=x27) underlying26 sizeOf25 U U hy28 (fun _=>rfl)) ?_;refine qt (fun _ U W=>lE (ys:=[_,_]) isAgg25 sizeOf25 U rfl rfl) ?_;refine qt (fun _ U W=>mV U) ?_;refine qt (fun _ U W=>mV U) ?_;obtain⟨x29,hy30,h⟩:=yK h;refine qt (fun _ U W=>iX (enc:=DT.e) (L:=l1) (y:=x29) underlying26 sizeOf25 U U hy30 (fun _=>rfl)) ?_;refine qt (fun _ U W=>lE (ys:=[_,_]) isAgg25 sizeOf25 U rfl rfl) ?_;obtain⟨v31,hy32,h⟩:=za h;refine qt (fun _ U W=>cN (zda x27 x29 v31 hy32) U call69 (xh (fun a b=>U a b) rfl rfl) rfl rfl rfl) ?_;refine qt (fun _ U W=>LR.geq U U) ?_;refine qs (fun _ U W=>pT U U)<|qN ?_;exact⟨(decide (0<=v31)),(),h,sP⟩
    ·refine kF<|kF<|kF<|kF<|kF<|kF<|kF<|kF<|kF ?_;refine kF<|kF ?_;refine qs (fun _ U W=>pF U U)<|qN ?_;exact⟨false,(),h,sP⟩
   ·rintro v25 _ h;refine xD h rfl (fun _ h=>?_) (fun _ h=>?_)
    ·refine wQ<|wR<|wa ?_;refine wN<|wX ?_;cases h;exact xT
    ·refine wK<|wR<|ws (LR.addW rfl rfl)<|wm ?_;refine wN ?_;exact⟨(IntKind.i64.wrap (v23+1)),(),h,sP⟩
  ·refine wZ ?_;exact⟨(),(),h,sP⟩
 ·rintro _ _ h;refine wQ<|wR<|wa ?_;refine wN<|wX ?_;cases h;exact xT
theorem ZJ(e1:EV)(r0:Bool)(h:(uh e1).wp (·=r0)):PFun prog 24 [.agg (List.map .d (EV.e e1))] (.d (.v (.bool r0))):=by
 refine fI (sl:=[(0,_)]) func24 rfl ntmps24 rfl rfl ?_;intro ctx hK;refine wQ<|wR<|ws (LR.box rfl rfl rfl rfl)<|wa ?_;refine wN<|wQ<|wQ<|wR<|ws (fR underlying28 rfl sizeOf23 (by decide) rfl rfl)<|ws (lD isAgg23 rfl rfl rfl) ?_;obtain⟨v2,hy3,h⟩:=za h;refine xN (jN e1.cid v2 hy3) call50<|wm ?_;refine ws (LR.extract rfl rfl)<|ws (LR.extract rfl rfl)<|ws (LR.allocZ (cs:=[_,_]) zeroValue25 rfl rfl rfl rfl)<|ws (sB (ns:=[_,_]) sizeOf25 rfl rfl rfl rfl rfl rfl rfl)<|wa ?_;refine wN<|wQ ?_;refine wJ (zH h) (fun(v4:Bool) (_:Unit)=>⟨72,[(1,.ref 1 0),(20,.d (.v (.bool v4)))],[(1,.cells 28 [.d (.v (.int .u16 e1.dot.dev)),.d (.v (.int .u64 e1.dot.n)),.d (.v (.int .u8 e1.kind)),.d (.v (.int .u64 e1.cid)),.d (.v (.int .u8 e1.field)),.d (.v (.string e1.text)),.d (.sl (List.map DT.e e1.kills))])]⟩) (fun h=>?_) ?_
 ·refine wR<|wm ?_;refine ws (LR.not rfl)<|wm ?_;refine xG (d:=15) h rfl (fun _ h=>?_) (fun _ h=>?_)
  ·refine wf<|wf<|wf<|wf<|ws (pT rfl rfl)<|wN ?_;exact⟨true,(),h,sP⟩
  ·refine wt (fR underlying28 rfl sizeOf25 (by decide) rfl rfl)<|wt (lA (ps:=[_,_]) isAgg25 sizeOf25 rfl rfl rfl rfl) ?_;obtain⟨v6,hy7,h⟩:=za h;refine wt (cN (wc e1.dot v6 hy7) rfl call51 rfl rfl rfl rfl)<|wt (LR.not rfl)<|ws (pF rfl rfl)<|wN ?_;exact⟨(!v6),(),h,sP⟩
 ·rintro v4 _ h;refine xD h rfl (fun _ h=>?_) (fun _ h=>?_)
  ·refine wQ<|wR<|wa ?_;refine wN<|wX ?_;cases h;exact xT
  ·refine wK<|wQ<|wQ<|wR<|ws (fR underlying28 rfl sizeOf5 (by decide) rfl rfl)<|ws (lD isAgg5 rfl rfl rfl)<|wN ?_;refine PWc.jnX (zH h) (fun(_:Unit) (_:Unit)=>⟨72,[(1,.ref 1 0)],[(1,.cells 28 [.d (.v (.int .u16 e1.dot.dev)),.d (.v (.int .u64 e1.dot.n)),.d (.v (.int .u8 e1.kind)),.d (.v (.int .u64 e1.cid)),.d (.v (.int .u8 e1.field)),.d (.v (.string e1.text)),.d (.sl (List.map DT.e e1.kills))])]⟩) (fun h=>?_) ?_
   ·refine wB<|wQ<|wR<|ws (eQ rfl rfl)<|wa ?_;refine wN ?_;refine xD h rfl (fun _ h=>?_) (fun _ h=>?_)
    ·refine wQ ?_;refine wJ (zH h) (fun(v10:Bool) (_:Unit)=>⟨72,[(1,.ref 1 0),(34,.d (.v (.bool v10)))],[(1,.cells 28 [.d (.v (.int .u16 e1.dot.dev)),.d (.v (.int .u64 e1.dot.n)),.d (.v (.int .u8 e1.kind)),.d (.v (.int .u64 e1.cid)),.d (.v (.int .u8 e1.field)),.d (.v (.string e1.text)),.d (.sl (List.map DT.e e1.kills))])]⟩) (fun h=>?_) ?_
     ·refine wR<|ws (fR underlying28 rfl sizeOf5 (by decide) rfl rfl)<|ws (lD isAgg5 rfl rfl rfl) ?_;obtain⟨v11,hy12,h⟩:=za h;refine xN (jO e1.field v11 hy12) call52<|ws (LR.not rfl)<|wm ?_;refine xG (d:=29) h rfl (fun _ h=>?_) (fun _ h=>?_)
      ·refine wf<|wf<|wf<|wf<|ws (pT rfl rfl)<|wN ?_;exact⟨true,(),h,sP⟩
      ·refine wt (fR underlying28 rfl sizeOf9 (by decide) rfl rfl)<|wt (lD isAgg9 rfl rfl rfl) ?_;obtain⟨v14,hy15,h⟩:=za h;refine wt (cN (jP e1.text v14 hy15) rfl call53 rfl rfl rfl rfl)<|wt (LR.not rfl)<|ws (pF rfl rfl)<|wN ?_;exact⟨(!v14),(),h,sP⟩
     ·rintro v10 _ h;refine xD h rfl (fun _ h=>?_) (fun _ h=>?_)
      ·refine wQ<|wR<|wa ?_;refine wN<|wX ?_;cases h;exact xT
      ·refine wK ?_;exact⟨(),(),h,sP⟩
    ·refine wQ<|wR<|ws (eQ rfl rfl)<|wa ?_;refine wN ?_;refine xD h rfl (fun _ h=>?_) (fun _ h=>?_)
     ·refine wQ ?_;refine wJ (zH h) (fun(v18:Bool) (_:Unit)=>⟨72,[(1,.ref 1 0),(44,.d (.v (.bool v18)))],[(1,.cells 28 [.d (.v (.int .u16 e1.dot.dev)),.d (.v (.int .u64 e1.dot.n)),.d (.v (.int .u8 e1.kind)),.d (.v (.int .u64 e1.cid)),.d (.v (.int .u8 e1.field)),.d (.v (.string e1.text)),.d (.sl (List.map DT.e e1.kills))])]⟩) (fun h=>?_) ?_
      ·refine wR<|ws (fR underlying28 rfl sizeOf5 (by decide) rfl rfl)<|ws (lD isAgg5 rfl rfl rfl)<|ws (nQ rfl rfl)<|wm ?_;refine xG (d:=40) h rfl (fun _ h=>?_) (fun _ h=>?_)
       ·refine wf<|wf<|wf<|ws (pT rfl rfl)<|wN ?_;exact⟨true,(),h,sP⟩
       ·refine wt (fR underlying28 rfl sizeOf9 (by decide) rfl rfl)<|wt (lD isAgg9 rfl rfl rfl)<|wt (LR.neqStr rfl rfl)<|ws (pF rfl rfl)<|wN ?_;exact⟨(!decide (e1.text=(⟨#[]⟩:ByteArray))),(),h,sP⟩
      ·rintro v18 _ h;refine xD h rfl (fun _ h=>?_) (fun _ h=>?_)
       ·refine wQ<|wR<|wa ?_;refine wN<|wX ?_;cases h;exact xT
       ·refine wK ?_;exact⟨(),(),h,sP⟩
     ·refine wQ<|wR<|wa ?_;refine wN<|wX ?_;cases h;exact xT
   ·rintro _ _ h;refine wQ<|wQ ?_;refine wJ (zH h) (fun(v21:Bool) (_:Unit)=>⟨72,[(1,.ref 1 0),(54,.d (.v (.bool v21)))],[(1,.cells 28 [.d (.v (.int .u16 e1.dot.dev)),.d (.v (.int .u64 e1.dot.n)),.d (.v (.int .u8 e1.kind)),.d (.v (.int .u64 e1.cid)),.d (.v (.int .u8 e1.field)),.d (.v (.string e1.text)),.d (.sl (List.map DT.e e1.kills))])]⟩) (fun h=>?_) ?_
    ·refine wR<|ws (fR underlying28 rfl sizeOf26 (by decide) rfl rfl)<|ws (lD isAgg26 rfl rfl rfl)<|ws (lM (enc:=DT.e) (L:=e1.kills) underlying26 rfl)<|ws (LR.gtr rfl rfl)<|wm ?_;refine xG (d:=49) h rfl (fun _ h=>?_) (fun _ h=>?_)
     ·refine wf<|wf<|wf<|wf<|ws (pT rfl rfl)<|wN ?_;exact⟨true,(),h,sP⟩
     ·refine wt (fR underlying28 rfl sizeOf26 (by decide) rfl rfl)<|wt (lD isAgg26 rfl rfl rfl) ?_;obtain⟨v23,hy24,h⟩:=za h;refine wt (cN (jQ e1.kills v23 hy24) rfl call54 rfl rfl rfl rfl)<|wt (LR.not rfl)<|ws (pF rfl rfl)<|wN ?_;exact⟨(!v23),(),h,sP⟩
    ·rintro v21 _ h;refine xD h rfl (fun _ h=>?_) (fun _ h=>?_)
     ·refine wQ<|wR<|wa ?_;refine wN<|wX ?_;cases h;exact xT
     ·refine wK<|wQ<|wQ<|wR<|ws (fR underlying28 rfl sizeOf26 (by decide) rfl rfl)<|ws (lD isAgg26 rfl rfl rfl)<|ws (lM (enc:=DT.e) (L:=e1.kills) underlying26 rfl)<|wm ?_;refine wN ?_;refine PWc.jnX (zH h) (fun(_:Unit) (_:Unit)=>⟨72,[],[]⟩) (fun h=>?_) ?_
      ·refine wB<|wM (fun(v43:Int) (_:Unit)=>⟨72,[(1,.ref 1 0),(56,.d (.sl (List.map DT.e e1.kills))),(57,.d (.v (.int .i64 (e1.kills.length:Int)))),(58,.d (.v (.int .i64 v43)))],[(1,.cells 28 [.d (.v (.int .u16 e1.dot.dev)),.d (.v (.int .u64 e1.dot.n)),.d (.v (.int .u8 e1.kind)),.d (.v (.int .u64 e1.cid)),.d (.v (.int .u8 e1.field)),.d (.v (.string e1.text)),.d (.sl (List.map DT.e e1.kills))])]⟩) () h (sP) ?_;rintro N v43 _ h;refine wQ<|wR<|ws (LR.lss rfl rfl)<|wN<|wQ ?_;refine xD h rfl (fun _ h=>?_) (fun _ h=>?_)
       ·refine wK<|wQ<|wB<|wQ<|wR ?_;obtain⟨x45,hy46,h⟩:=yK h;refine ws (iX (enc:=DT.e) (L:=e1.kills) (y:=x45) underlying26 sizeOf25 rfl rfl hy46 (fun _=>rfl))<|ws (lE (ys:=[_,_]) isAgg25 sizeOf25 rfl rfl rfl)<|ws (LR.allocZ (cs:=[_,_]) zeroValue25 rfl rfl rfl rfl)<|ws (sB (ns:=[_,_]) sizeOf25 rfl rfl rfl rfl rfl rfl rfl)<|wN<|wQ ?_;refine wJ (zH h) (fun(v47:Bool) (_:Unit)=>⟨72,[(1,.ref 1 0),(56,.d (.sl (List.map DT.e e1.kills))),(57,.d (.v (.int .i64 (e1.kills.length:Int)))),(58,.d (.v (.int .i64 v43))),(70,.d (.v (.bool v47)))],[(1,.cells 28 [.d (.v (.int .u16 e1.dot.dev)),.d (.v (.int .u64 e1.dot.n)),.d (.v (.int .u8 e1.kind)),.d (.v (.int .u64 e1.cid)),.d (.v (.int .u8 e1.field)),.d (.v (.string e1.text)),.d (.sl (List.map DT.e e1.kills))])]⟩) (fun h=>?_) ?_
        ·refine wR<|ws (lA (ps:=[_,_]) isAgg25 sizeOf25 rfl rfl rfl rfl) ?_;obtain⟨v48,hy49,h⟩:=za h;refine xN (wc x45 v48 hy49) call51<|ws (LR.not rfl)<|wm ?_;refine xG (d:=65) h rfl (fun _ h=>?_) (fun _ h=>?_)
         ·refine wf<|wf<|wf<|wf<|ws (pT rfl rfl)<|wN ?_;exact⟨true,(),h,sP⟩
         ·refine wt (lA (ps:=[_,_]) isAgg25 sizeOf25 rfl rfl rfl rfl)<|wt (fR underlying28 rfl sizeOf25 (by decide) rfl rfl)<|wt (lA (ps:=[_,_]) isAgg25 sizeOf25 rfl rfl rfl rfl)<|wt (LR.eqlAgg rfl rfl rfl rfl eq25)<|ws (pF rfl rfl)<|wN ?_;exact⟨((decide (x45.dev=e1.dot.dev)&&decide (x45.n=e1.dot.n))),(),h,sP⟩
        ·rintro v47 _ h;refine xD h rfl (fun _ h=>?_) (fun _ h=>?_)
         ·refine wQ<|wR<|wa ?_;refine wN<|wX ?_;cases h;exact xT
         ·refine wK<|wR<|ws (LR.addW rfl rfl)<|wm ?_;refine wN ?_;exact⟨(IntKind.i64.wrap (v43+1)),(),h,sP⟩
       ·refine wZ ?_;exact⟨(),(),h,sP⟩
      ·rintro _ _ h;refine wQ<|wR<|wa ?_;refine wN<|wX ?_;cases h;exact xT
end Go.Proofs
