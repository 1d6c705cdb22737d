/- Texts that the walks and laws lean on, side by side. -/
import Derived.Shelf.SlSortCmp.NoneTotal
import Derived.StillTactics
import Derived.RegionTactic
import Derived.Test.YtipkoiklahndlaaGreatMDs2
import Derived.Test.YtipkoiklahndlaaGreatMDs3
set_option linter.unusedVariables false
set_option linter.unusedSimpArgs false
namespace Go.Proofs
set_option linter.unusedSimpArgs false
set_option linter.unusedVariables false
open Go.Shelf Go.RowKit Go.Lib Go.Sort Go.Ep
theorem xca (a:Int) (W:World):Calls Tryz.prog 162 #[.int .u16 a] W fun e w'=>e = .returned (.bool false) /\ w' = W:=by
 go_enter Tryz.func162,Tryz.ntmps162
 go_wp2
 go_ret
 exact ⟨by simp,rfl⟩
theorem xda (a b:Int) (W:World):Calls Tryz.prog 120 #[.int .u16 a,.int .u16 b] W fun e w'=>e = .returned (.int .i64 (Lib.compareInt a b)) /\ w' = W:=by
 unfold Lib.compareInt
 by_cases h1:a < b
 ·go_enter Tryz.func120,Tryz.ntmps120
  go_wp2_with (go_at_call 162;refine (xca _ _).mono ?_;rintro e w' ⟨rfl,rfl⟩)
  go_ret
  exact ⟨by simp [h1],rfl⟩
 ·by_cases h2:b < a
  ·go_enter Tryz.func120,Tryz.ntmps120
   go_wp2_with (go_at_call 162;refine (xca _ _).mono ?_;rintro e w' ⟨rfl,rfl⟩)
   go_ret
   exact ⟨by simp [h1,h2],rfl⟩
  ·go_enter Tryz.func120,Tryz.ntmps120
   go_wp2_with (go_at_call 162;refine (xca _ _).mono ?_;rintro e w' ⟨rfl,rfl⟩)
   go_ret
   exact ⟨by simp [h1,h2],rfl⟩
theorem xea (a:Int) (W:World):Calls Tryz.prog 163 #[.int .u64 a] W fun e w'=>e = .returned (.bool false) /\ w' = W:=by
 go_enter Tryz.func163,Tryz.ntmps163
 go_wp2
 go_ret
 exact ⟨by simp,rfl⟩
theorem xfa (a b:Int) (W:World):Calls Tryz.prog 121 #[.int .u64 a,.int .u64 b] W fun e w'=>e = .returned (.int .i64 (Lib.compareInt a b)) /\ w' = W:=by
 unfold Lib.compareInt
 by_cases h1:a < b
 ·go_enter Tryz.func121,Tryz.ntmps121
  go_wp2_with (go_at_call 163;refine (xea _ _).mono ?_;rintro e w' ⟨rfl,rfl⟩)
  go_ret
  exact ⟨by simp [h1],rfl⟩
 ·by_cases h2:b < a
  ·go_enter Tryz.func121,Tryz.ntmps121
   go_wp2_with (go_at_call 163;refine (xea _ _).mono ?_;rintro e w' ⟨rfl,rfl⟩)
   go_ret
   exact ⟨by simp [h1,h2],rfl⟩
  ·go_enter Tryz.func121,Tryz.ntmps121
   go_wp2_with (go_at_call 163;refine (xea _ _).mono ?_;rintro e w' ⟨rfl,rfl⟩)
   go_ret
   exact ⟨by simp [h1,h2],rfl⟩
theorem xga (W:World) (a b:Array Obj) (q:Nat):grow ((grow W a).drewN q) b = grow (W.drewN q) (a ++ b):=by
 show grow (grow (W.drewN q) a) b = _;rw [grow_grow]
def Uj (a b c d:Int):Int:=if Lib.compareInt a c ≠ 0 then Lib.compareInt a c else Lib.compareInt b d
theorem ysa (a b c d:Int) (W:World):Calls Tryz.prog 56 #[.agg #[.int .u16 a,.int .u64 b],.agg #[.int .u16 c,.int .u64 d]] W fun e w'=>e = .returned (.int .i64 (Uj a b c d)) /\ ∃ q os',w' = grow (W.drewN q) os':=by
 have c1:=fun W'=>xda a c W'
 have c2:=fun W'=>xfa b d W'
 unfold Uj
 generalize Lib.compareInt a c = r1 at c1 ⊢
 generalize Lib.compareInt b d = r2 at c2 ⊢
 by_cases h:r1 = 0
 ·subst h
  go_enter Tryz.func56,Tryz.ntmps56
  go_wp2_with (first | (go_at_call 120;refine (c1 _).mono ?_;rintro e w' ⟨rfl,rfl⟩) | (go_at_call 121;refine (c2 _).mono ?_;rintro e w' ⟨rfl,rfl⟩))
  go_ret
  exact ⟨by simp,0,_,by rw [alloc_eq_grow,alloc_eq_grow,grow_grow];rfl⟩
 ·go_enter Tryz.func56,Tryz.ntmps56
  go_wp2_with (first | (go_at_call 120;refine (c1 _).mono ?_;rintro e w' ⟨rfl,rfl⟩) | (go_at_call 121;refine (c2 _).mono ?_;rintro e w' ⟨rfl,rfl⟩))
  go_ret
  exact ⟨by simp [h],0,_,by rw [alloc_eq_grow,alloc_eq_grow,grow_grow];rfl⟩
structure RawTEvent where
 dot_dev_:Int
 dot_n_:Int
 c2:Value
 h2:c2.oneCell' = true
 c3:Value
 h3:c3.oneCell' = true
 c4:Value
 h4:c4.oneCell' = true
 c5:Value
 h5:c5.oneCell' = true
 c6:Value
 h6:c6.oneCell' = true
def RawTEvent.v (r:RawTEvent):List Value:=[.int .u16 r.dot_dev_,.int .u64 r.dot_n_,r.c2,r.c3,r.c4,r.c5,r.c6]
theorem RawTEvent.v1 (r:RawTEvent):∀ u ∈ r.v,u.oneCell' = true:=by
 intro u hu;simp only [RawTEvent.v,List.mem_cons,List.not_mem_nil,or_false] at hu;rcases hu with rfl | rfl | rfl | rfl | rfl | rfl | rfl
 ·rfl
 ·rfl
 ·exact r.h2
 ·exact r.h3
 ·exact r.h4
 ·exact r.h5
 ·exact r.h6
def RawTEvent.R (x:TEvent) (r:RawTEvent):Prop:=r.dot_dev_ = x.dot.dev /\ r.dot_n_ = x.dot.n
theorem RawTEvent.raw (w:World) (S:Nat -> Prop) (x:TEvent) (us:List Value) (hl:us.length = 7) (h:∀ (j:Nat) (d:DV) (u:Value),(TEvent.e x)[j]? = some d -> us[j]? = some u -> DRd w S d u):∃ r:RawTEvent,r.v = us /\ RawTEvent.R x r:=by
 match us,hl with
 | [u0,u1,u2,u3,u4,u5,u6],_=>
  refine ⟨⟨x.dot.dev,x.dot.n,u2,(h 2 _ u2 rfl rfl).one,u3,(h 3 _ u3 rfl rfl).one,u4,(h 4 _ u4 rfl rfl).one,u5,(h 5 _ u5 rfl rfl).one,u6,(h 6 _ u6 rfl rfl).one⟩,?_,⟨rfl,rfl⟩⟩;have e0:=h 0 _ u0 rfl rfl
  cases e0
  have e1:=h 1 _ u1 rfl rfl
  cases e1
  rfl
def qz (x y:RawTEvent):Int:=Uj x.dot_dev_ x.dot_n_ y.dot_dev_ y.dot_n_
theorem xha (x y:RawTEvent) (W:World):Calls Tryz.prog 153 #[.agg #[.int .u16 x.dot_dev_,.int .u64 x.dot_n_,x.c2,x.c3,x.c4,x.c5,x.c6],.agg #[.int .u16 y.dot_dev_,.int .u64 y.dot_n_,y.c2,y.c3,y.c4,y.c5,y.c6]] W fun e w'=>e = .returned (.int .i64 (qz x y)) /\ ∃ q os',w' = grow (W.drewN q) os':=by
 have c1:=fun W'=>ysa x.dot_dev_ x.dot_n_ y.dot_dev_ y.dot_n_ W'
 unfold qz
 generalize Uj x.dot_dev_ x.dot_n_ y.dot_dev_ y.dot_n_ = r1 at c1 ⊢
 go_enter Tryz.func153,Tryz.ntmps153
 go_wp2_with (go_at_call 56;refine (c1 _).mono ?_;rintro e w' ⟨rfl,q,os',rfl⟩)
 go_ret
 exact ⟨rfl,q,_,by rw [alloc_eq_grow,alloc_eq_grow,grow_grow,xga]⟩
theorem Jb (x y:RawTEvent):ltOf qz x y = (fun x y:RawTEvent=>decide (x.dot_dev_ < y.dot_dev_) || (decide (x.dot_dev_ = y.dot_dev_) && decide (x.dot_n_ < y.dot_n_))) x y:=by
 unfold ltOf qz Uj Lib.compareInt ;rw [Bool.eq_iff_iff];simp only [decide_eq_true_eq,Bool.or_eq_true,Bool.and_eq_true]
 split <;> (repeat' split) <;> omega
theorem z7a : SWO (ltOf qz) where
 irrefl x:=by rw [Jb];simp []
 trans x y z h1 h2:=by rw [Jb] at *;simp [] at *;omega
 ntrans x y z h1 h2:=by rw [Jb] at *;simp [] at *;omega
instance inhcf152 : Inhabited RawTEvent:=⟨⟨0,0,.int .u64 0,rfl,.int .u64 0,rfl,.int .u64 0,rfl,.int .u64 0,rfl,.int .u64 0,rfl⟩⟩
theorem xia (blk off size:Nat) (w:World):CmpLays Tryz.prog 153 #[] RawTEvent.v 7 qz blk off size w:=fun _ _ _ _ x y=>xha x y _
set_option maxHeartbeats 2000000 in
set_option maxRecDepth 100000 in
theorem yta (blk off cap:Nat) (d:Array RawTEvent) (w:World) (hH:HoldsK RawTEvent.v 7 w blk off d) (hblk:blk < w.heap.size) (hsz:d.size < 4611686018427387904) :
  Calls Tryz.prog 152 #[.slice (some ⟨blk,off,none⟩) d.size cap,.func (.func 153) #[] #[]] w fun e w'=>e = .returned (.tuple #[]) /\ ∃ n os,w' = sortWorldK RawTEvent.v 7 w blk off n (pdq (ltOf qz) d 0 d.size (Lib.bitLen d.size) true true) os:=by
 have eg:∀ args w,(callFunc 153 args).run Tryz.prog w = .ok (.enter 153 args) w:=Tryz.call153;have e14:=Tryz.call192;have e15:=Tryz.call193;have hlim:Lib.bitLen d.size < 4611686018427387904:=Nat.lt_of_le_of_lt (Lib.bitLen_le d.size 62 (by omega) (by omega)) (by omega);have hp:=AnyQ.pdqsortCmpFunc_all Tryz.pdq192 7 Tryz.isAgg69 Tryz.sizeOf69 RawTEvent.v qz 153 #[] z7a blk off cap d w eg (xia blk off d.size w) ⟨fun _=>rfl,RawTEvent.v1,hH,hblk⟩ (d.size + 1) 0 d.size (Lib.bitLen d.size) d w (by omega) rfl (SWK.start hH) (Nat.zero_le _) (Nat.le_refl _) hsz hlim (Or.inl rfl)
 change Calls Tryz.prog 192 _ _ _ at hp
 have hl:Calls Tryz.prog 193 #[.int .u64 (d.size:Int)] w fun e w'=>e = .returned (.int .i64 (Lib.bitLen d.size:Nat)) /\ w' = w:=by
  have h:=Any.bits_Len (SlLaysF0.n15.bits Tryz.bits193) (d.size:Int) w (by omega) (by omega)
  rwa [Int.toNat_natCast] at h
 have wr:IntKind.u64.wrap (d.size:Int) = d.size:=by simp [IntKind.wrap,IntKind.bits,IntKind.signed];omega
 clear hH
 go_enter Tryz.func152,Tryz.ntmps152
 go_wp2_with (first | (go_at_call 193;refine hl.mono ?_;rintro e w' ⟨rfl,rfl⟩) | (go_at_call 192;refine hp.mono ?_;rintro e w' ⟨rfl,n,os,rfl⟩))
 go_end0
 exact ⟨rfl,n,os,rfl⟩
theorem zFa (w:World):Calls Tryz.prog 152 #[.slice none 0 0,.func (.func 153) #[] #[]] w fun e w'=>e = .returned (.tuple #[]) /\ Go.RowKit.Below w.heap.size w w':=by
 have e14:=Tryz.call192;have e15:=Tryz.call193;have hp:=fun lim W=>AnyF.pdqsortCmpFunc_none Tryz.pdq192 none 0 lim (.func (.func 153) #[] #[]) W
 have hl:∀ W,Calls Tryz.prog 193 #[.int .u64 0] W fun e w'=>e = .returned (.int .i64 (Lib.bitLen 0:Nat)) /\ w' = W:=fun W=>by
  have h:=Any.bits_Len (SlLaysF0.n15.bits Tryz.bits193) 0 W (by omega) (by omega);exact h
 go_enter Tryz.func152,Tryz.ntmps152
 go_wp2_with (first | (go_at_call 193;refine (hl _).mono ?_;rintro e w' ⟨rfl,rfl⟩) | (go_at_call 192;refine (hp _ _).mono ?_;rintro e w' ⟨rfl,rfl⟩))
 go_end0
 exact ⟨rfl,Go.RowKit.Below.refl _ _⟩
theorem jq : SortLaw Tryz.prog 152 153 7 RawTEvent.v (fun x y:RawTEvent=>decide (x.dot_dev_ < y.dot_dev_) || (decide (x.dot_dev_ = y.dot_dev_) && decide (x.dot_n_ < y.dot_n_))):=SortLaw.of z7a Jb (fun _=>rfl) zFa (fun blk off cap d w hH hblk hsz=>yta blk off cap d w hH hblk hsz)
theorem rlt152 (x y:TEvent) (r r':RawTEvent) (h1:RawTEvent.R x r) (h2:RawTEvent.R y r'):((fun x y:RawTEvent=>decide (x.dot_dev_ < y.dot_dev_) || (decide (x.dot_dev_ = y.dot_dev_) && decide (x.dot_n_ < y.dot_n_)))) r r' = ZU x y:=by simp only [RawTEvent.R] at h1 h2;simp [h1,h2,ZU]
structure RawTPart where
 dev_:Int
 c1:Value
 h1:c1.oneCell' = true
def RawTPart.v (r:RawTPart):List Value:=[.int .u16 r.dev_,r.c1]
theorem RawTPart.v1 (r:RawTPart):∀ u ∈ r.v,u.oneCell' = true:=by
 intro u hu;simp only [RawTPart.v,List.mem_cons,List.not_mem_nil,or_false] at hu;rcases hu with rfl | rfl
 ·rfl
 ·exact r.h1
def RawTPart.R (x:TPart) (r:RawTPart):Prop:=r.dev_ = x.dev
theorem RawTPart.raw (w:World) (S:Nat -> Prop) (x:TPart) (us:List Value) (hl:us.length = 2) (h:∀ (j:Nat) (d:DV) (u:Value),(TPart.e x)[j]? = some d -> us[j]? = some u -> DRd w S d u):∃ r:RawTPart,r.v = us /\ RawTPart.R x r:=by
 match us,hl with
 | [u0,u1],_=>
  refine ⟨⟨x.dev,u1,(h 1 _ u1 rfl rfl).one⟩,?_,rfl⟩;have e0:=h 0 _ u0 rfl rfl
  cases e0
  rfl
def QA (x y:RawTPart):Int:=Lib.compareInt x.dev_ y.dev_
theorem xja (x y:RawTPart) (W:World):Calls Tryz.prog 160 #[.agg #[.int .u16 x.dev_,x.c1],.agg #[.int .u16 y.dev_,y.c1]] W fun e w'=>e = .returned (.int .i64 (QA x y)) /\ ∃ q os',w' = grow (W.drewN q) os':=by
 have c1:=fun W'=>xda x.dev_ y.dev_ W'
 unfold QA
 generalize Lib.compareInt x.dev_ y.dev_ = r1 at c1 ⊢
 go_enter Tryz.func160,Tryz.ntmps160
 go_wp2_with (go_at_call 120;refine (c1 _).mono ?_;rintro e w' ⟨rfl,rfl⟩)
 go_ret
 exact ⟨rfl,0,_,by rw [alloc_eq_grow,alloc_eq_grow,grow_grow];rfl⟩
theorem Jc (x y:RawTPart):ltOf QA x y = (fun x y:RawTPart=>decide (x.dev_ < y.dev_)) x y:=by
 unfold ltOf QA Lib.compareInt ;rw [Bool.eq_iff_iff];simp only [decide_eq_true_eq,Bool.or_eq_true,Bool.and_eq_true]
 split <;> (repeat' split) <;> omega
theorem z8a : SWO (ltOf QA) where
 irrefl x:=by rw [Jc];simp []
 trans x y z h1 h2:=by rw [Jc] at *;simp [] at *;omega
 ntrans x y z h1 h2:=by rw [Jc] at *;simp [] at *;omega
instance inhcf159 : Inhabited RawTPart:=⟨⟨0,.int .u64 0,rfl⟩⟩
theorem xka (blk off size:Nat) (w:World):CmpLays Tryz.prog 160 #[] RawTPart.v 2 QA blk off size w:=fun _ _ _ _ x y=>xja x y _
set_option maxHeartbeats 2000000 in
set_option maxRecDepth 100000 in
theorem yua (blk off cap:Nat) (d:Array RawTPart) (w:World) (hH:HoldsK RawTPart.v 2 w blk off d) (hblk:blk < w.heap.size) (hsz:d.size < 4611686018427387904) :
  Calls Tryz.prog 159 #[.slice (some ⟨blk,off,none⟩) d.size cap,.func (.func 160) #[] #[]] w fun e w'=>e = .returned (.tuple #[]) /\ ∃ n os,w' = sortWorldK RawTPart.v 2 w blk off n (pdq (ltOf QA) d 0 d.size (Lib.bitLen d.size) true true) os:=by
 have eg:∀ args w,(callFunc 160 args).run Tryz.prog w = .ok (.enter 160 args) w:=Tryz.call160;have e14:=Tryz.call198;have e15:=Tryz.call193;have hlim:Lib.bitLen d.size < 4611686018427387904:=Nat.lt_of_le_of_lt (Lib.bitLen_le d.size 62 (by omega) (by omega)) (by omega);have hp:=AnyQ.pdqsortCmpFunc_all Tryz.pdq198 2 Tryz.isAgg81 Tryz.sizeOf81 RawTPart.v QA 160 #[] z8a blk off cap d w eg (xka blk off d.size w) ⟨fun _=>rfl,RawTPart.v1,hH,hblk⟩ (d.size + 1) 0 d.size (Lib.bitLen d.size) d w (by omega) rfl (SWK.start hH) (Nat.zero_le _) (Nat.le_refl _) hsz hlim (Or.inl rfl)
 change Calls Tryz.prog 198 _ _ _ at hp
 have hl:Calls Tryz.prog 193 #[.int .u64 (d.size:Int)] w fun e w'=>e = .returned (.int .i64 (Lib.bitLen d.size:Nat)) /\ w' = w:=by
  have h:=Any.bits_Len (SlLaysF0.n15.bits Tryz.bits193) (d.size:Int) w (by omega) (by omega)
  rwa [Int.toNat_natCast] at h
 have wr:IntKind.u64.wrap (d.size:Int) = d.size:=by simp [IntKind.wrap,IntKind.bits,IntKind.signed];omega
 clear hH
 go_enter Tryz.func159,Tryz.ntmps159
 go_wp2_with (first | (go_at_call 193;refine hl.mono ?_;rintro e w' ⟨rfl,rfl⟩) | (go_at_call 198;refine hp.mono ?_;rintro e w' ⟨rfl,n,os,rfl⟩))
 go_end0
 exact ⟨rfl,n,os,rfl⟩
theorem zGa (w:World):Calls Tryz.prog 159 #[.slice none 0 0,.func (.func 160) #[] #[]] w fun e w'=>e = .returned (.tuple #[]) /\ Go.RowKit.Below w.heap.size w w':=by
 have e14:=Tryz.call198;have e15:=Tryz.call193;have hp:=fun lim W=>AnyF.pdqsortCmpFunc_none Tryz.pdq198 none 0 lim (.func (.func 160) #[] #[]) W
 have hl:∀ W,Calls Tryz.prog 193 #[.int .u64 0] W fun e w'=>e = .returned (.int .i64 (Lib.bitLen 0:Nat)) /\ w' = W:=fun W=>by
  have h:=Any.bits_Len (SlLaysF0.n15.bits Tryz.bits193) 0 W (by omega) (by omega);exact h
 go_enter Tryz.func159,Tryz.ntmps159
 go_wp2_with (first | (go_at_call 193;refine (hl _).mono ?_;rintro e w' ⟨rfl,rfl⟩) | (go_at_call 198;refine (hp _ _).mono ?_;rintro e w' ⟨rfl,rfl⟩))
 go_end0
 exact ⟨rfl,Go.RowKit.Below.refl _ _⟩
theorem yva : SortLaw Tryz.prog 159 160 2 RawTPart.v (fun x y:RawTPart=>decide (x.dev_ < y.dev_)):=SortLaw.of z8a Jc (fun _=>rfl) zGa (fun blk off cap d w hH hblk hsz=>yua blk off cap d w hH hblk hsz)
theorem rlt159 (x y:TPart) (r r':RawTPart) (h1:RawTPart.R x r) (h2:RawTPart.R y r'):((fun x y:RawTPart=>decide (x.dev_ < y.dev_))) r r' = jp x y:=by simp only [RawTPart.R] at h1 h2;simp [h1,h2,jp]
def QB (x y:TDot):Int:=if Lib.compareInt x.dev y.dev ≠ 0 then Lib.compareInt x.dev y.dev else Lib.compareInt x.n y.n
theorem xla (x y:TDot) (W:World):Calls Tryz.prog 56 #[.agg #[.int .u16 x.dev,.int .u64 x.n],.agg #[.int .u16 y.dev,.int .u64 y.n]] W fun e w'=>e = .returned (.int .i64 (QB x y)) /\ ∃ q os',w' = grow (W.drewN q) os':=by
 have c1:=fun W'=>xda x.dev y.dev W'
 have c2:=fun W'=>xfa x.n y.n W'
 unfold QB
 generalize Lib.compareInt x.dev y.dev = r1 at c1 ⊢
 generalize Lib.compareInt x.n y.n = r2 at c2 ⊢
 by_cases h:r1 = 0
 ·subst h
  go_enter Tryz.func56,Tryz.ntmps56
  go_wp2_with (first | (go_at_call 120;refine (c1 _).mono ?_;rintro e w' ⟨rfl,rfl⟩) | (go_at_call 121;refine (c2 _).mono ?_;rintro e w' ⟨rfl,rfl⟩))
  go_ret
  exact ⟨by simp,0,_,by rw [alloc_eq_grow,alloc_eq_grow,grow_grow];rfl⟩
 ·go_enter Tryz.func56,Tryz.ntmps56
  go_wp2_with (first | (go_at_call 120;refine (c1 _).mono ?_;rintro e w' ⟨rfl,rfl⟩) | (go_at_call 121;refine (c2 _).mono ?_;rintro e w' ⟨rfl,rfl⟩))
  go_ret
  exact ⟨by simp [h],0,_,by rw [alloc_eq_grow,alloc_eq_grow,grow_grow];rfl⟩
theorem Jd (x y:TDot):ltOf QB x y = zM x y:=by
 unfold ltOf QB Lib.compareInt zM;rw [Bool.eq_iff_iff];simp only [decide_eq_true_eq,Bool.or_eq_true,Bool.and_eq_true]
 split <;> (repeat' split) <;> omega
theorem z9a : SWO (ltOf QB) where
 irrefl x:=by rw [Jd];simp [zM]
 trans x y z h1 h2:=by rw [Jd] at *;simp [zM] at *;omega
 ntrans x y z h1 h2:=by rw [Jd] at *;simp [zM] at *;omega
instance inhcf169 : Inhabited TDot:=⟨⟨0,0⟩⟩
theorem xma (blk off size:Nat) (w:World):CmpLays Tryz.prog 56 #[] TDot.v 2 QB blk off size w:=fun _ _ _ _ x y=>xla x y _
set_option maxHeartbeats 2000000 in
set_option maxRecDepth 100000 in
theorem ywa (blk off cap:Nat) (d:Array TDot) (w:World) (hH:HoldsK TDot.v 2 w blk off d) (hblk:blk < w.heap.size) (hsz:d.size < 4611686018427387904) :
  Calls Tryz.prog 169 #[.slice (some ⟨blk,off,none⟩) d.size cap,.func (.func 56) #[] #[]] w fun e w'=>e = .returned (.tuple #[]) /\ ∃ n os,w' = sortWorldK TDot.v 2 w blk off n (pdq (ltOf QB) d 0 d.size (Lib.bitLen d.size) true true) os:=by
 have eg:∀ args w,(callFunc 56 args).run Tryz.prog w = .ok (.enter 56 args) w:=Tryz.call56;have e14:=Tryz.call200;have e15:=Tryz.call193;have hlim:Lib.bitLen d.size < 4611686018427387904:=Nat.lt_of_le_of_lt (Lib.bitLen_le d.size 62 (by omega) (by omega)) (by omega);have hp:=AnyQ.pdqsortCmpFunc_all Tryz.pdq200 2 Tryz.isAgg66 Tryz.sizeOf66 TDot.v QB 56 #[] z9a blk off cap d w eg (xma blk off d.size w) ⟨fun _=>rfl,TDot.v1,hH,hblk⟩ (d.size + 1) 0 d.size (Lib.bitLen d.size) d w (by omega) rfl (SWK.start hH) (Nat.zero_le _) (Nat.le_refl _) hsz hlim (Or.inl rfl)
 change Calls Tryz.prog 200 _ _ _ at hp
 have hl:Calls Tryz.prog 193 #[.int .u64 (d.size:Int)] w fun e w'=>e = .returned (.int .i64 (Lib.bitLen d.size:Nat)) /\ w' = w:=by
  have h:=Any.bits_Len (SlLaysF0.n15.bits Tryz.bits193) (d.size:Int) w (by omega) (by omega)
  rwa [Int.toNat_natCast] at h
 have wr:IntKind.u64.wrap (d.size:Int) = d.size:=by simp [IntKind.wrap,IntKind.bits,IntKind.signed];omega
 clear hH
 go_enter Tryz.func169,Tryz.ntmps169
 go_wp2_with (first | (go_at_call 193;refine hl.mono ?_;rintro e w' ⟨rfl,rfl⟩) | (go_at_call 200;refine hp.mono ?_;rintro e w' ⟨rfl,n,os,rfl⟩))
 go_end0
 exact ⟨rfl,n,os,rfl⟩
theorem zHa (w:World):Calls Tryz.prog 169 #[.slice none 0 0,.func (.func 56) #[] #[]] w fun e w'=>e = .returned (.tuple #[]) /\ Go.RowKit.Below w.heap.size w w':=by
 have e14:=Tryz.call200;have e15:=Tryz.call193;have hp:=fun lim W=>AnyF.pdqsortCmpFunc_none Tryz.pdq200 none 0 lim (.func (.func 56) #[] #[]) W
 have hl:∀ W,Calls Tryz.prog 193 #[.int .u64 0] W fun e w'=>e = .returned (.int .i64 (Lib.bitLen 0:Nat)) /\ w' = W:=fun W=>by
  have h:=Any.bits_Len (SlLaysF0.n15.bits Tryz.bits193) 0 W (by omega) (by omega);exact h
 go_enter Tryz.func169,Tryz.ntmps169
 go_wp2_with (first | (go_at_call 193;refine (hl _).mono ?_;rintro e w' ⟨rfl,rfl⟩) | (go_at_call 200;refine (hp _ _).mono ?_;rintro e w' ⟨rfl,rfl⟩))
 go_end0
 exact ⟨rfl,Go.RowKit.Below.refl _ _⟩
theorem xna : SortLaw Tryz.prog 169 56 2 TDot.v zM:=SortLaw.of z9a Jd (fun _=>rfl) zHa (fun blk off cap d w hH hblk hsz=>ywa blk off cap d w hH hblk hsz)
def QC (x y:TRun):Int:=Lib.compareInt x.lo y.lo
theorem xoa (x y:TRun) (W:World):Calls Tryz.prog 197 #[.agg #[.int .u64 x.lo,.int .u64 x.hi],.agg #[.int .u64 y.lo,.int .u64 y.hi]] W fun e w'=>e = .returned (.int .i64 (QC x y)) /\ ∃ q os',w' = grow (W.drewN q) os':=by
 have c1:=fun W'=>xfa x.lo y.lo W'
 unfold QC
 generalize Lib.compareInt x.lo y.lo = r1 at c1 ⊢
 go_enter Tryz.func197,Tryz.ntmps197
 go_wp2_with (go_at_call 121;refine (c1 _).mono ?_;rintro e w' ⟨rfl,rfl⟩)
 go_ret
 exact ⟨rfl,0,_,by rw [alloc_eq_grow,alloc_eq_grow,grow_grow];rfl⟩
theorem Je (x y:TRun):ltOf QC x y = jZ x y:=by
 unfold ltOf QC Lib.compareInt jZ;rw [Bool.eq_iff_iff];simp only [decide_eq_true_eq,Bool.or_eq_true,Bool.and_eq_true]
 split <;> (repeat' split) <;> omega
theorem yAa : SWO (ltOf QC) where
 irrefl x:=by rw [Je];simp [jZ]
 trans x y z h1 h2:=by rw [Je] at *;simp [jZ] at *;omega
 ntrans x y z h1 h2:=by rw [Je] at *;simp [jZ] at *;omega
instance inhcf196 : Inhabited TRun:=⟨⟨0,0⟩⟩
theorem xpa (blk off size:Nat) (w:World):CmpLays Tryz.prog 197 #[] TRun.v 2 QC blk off size w:=fun _ _ _ _ x y=>xoa x y _
set_option maxHeartbeats 2000000 in
set_option maxRecDepth 100000 in
theorem yxa (blk off cap:Nat) (d:Array TRun) (w:World) (hH:HoldsK TRun.v 2 w blk off d) (hblk:blk < w.heap.size) (hsz:d.size < 4611686018427387904) :
  Calls Tryz.prog 196 #[.slice (some ⟨blk,off,none⟩) d.size cap,.func (.func 197) #[] #[]] w fun e w'=>e = .returned (.tuple #[]) /\ ∃ n os,w' = sortWorldK TRun.v 2 w blk off n (pdq (ltOf QC) d 0 d.size (Lib.bitLen d.size) true true) os:=by
 have eg:∀ args w,(callFunc 197 args).run Tryz.prog w = .ok (.enter 197 args) w:=Tryz.call197;have e14:=Tryz.call216;have e15:=Tryz.call193;have hlim:Lib.bitLen d.size < 4611686018427387904:=Nat.lt_of_le_of_lt (Lib.bitLen_le d.size 62 (by omega) (by omega)) (by omega);have hp:=AnyQ.pdqsortCmpFunc_all Tryz.pdq216 2 Tryz.isAgg78 Tryz.sizeOf78 TRun.v QC 197 #[] yAa blk off cap d w eg (xpa blk off d.size w) ⟨fun _=>rfl,TRun.v1,hH,hblk⟩ (d.size + 1) 0 d.size (Lib.bitLen d.size) d w (by omega) rfl (SWK.start hH) (Nat.zero_le _) (Nat.le_refl _) hsz hlim (Or.inl rfl)
 change Calls Tryz.prog 216 _ _ _ at hp
 have hl:Calls Tryz.prog 193 #[.int .u64 (d.size:Int)] w fun e w'=>e = .returned (.int .i64 (Lib.bitLen d.size:Nat)) /\ w' = w:=by
  have h:=Any.bits_Len (SlLaysF0.n15.bits Tryz.bits193) (d.size:Int) w (by omega) (by omega)
  rwa [Int.toNat_natCast] at h
 have wr:IntKind.u64.wrap (d.size:Int) = d.size:=by simp [IntKind.wrap,IntKind.bits,IntKind.signed];omega
 clear hH
 go_enter Tryz.func196,Tryz.ntmps196
 go_wp2_with (first | (go_at_call 193;refine hl.mono ?_;rintro e w' ⟨rfl,rfl⟩) | (go_at_call 216;refine hp.mono ?_;rintro e w' ⟨rfl,n,os,rfl⟩))
 go_end0
 exact ⟨rfl,n,os,rfl⟩
theorem zIa (w:World):Calls Tryz.prog 196 #[.slice none 0 0,.func (.func 197) #[] #[]] w fun e w'=>e = .returned (.tuple #[]) /\ Go.RowKit.Below w.heap.size w w':=by
 have e14:=Tryz.call216;have e15:=Tryz.call193;have hp:=fun lim W=>AnyF.pdqsortCmpFunc_none Tryz.pdq216 none 0 lim (.func (.func 197) #[] #[]) W
 have hl:∀ W,Calls Tryz.prog 193 #[.int .u64 0] W fun e w'=>e = .returned (.int .i64 (Lib.bitLen 0:Nat)) /\ w' = W:=fun W=>by
  have h:=Any.bits_Len (SlLaysF0.n15.bits Tryz.bits193) 0 W (by omega) (by omega);exact h
 go_enter Tryz.func196,Tryz.ntmps196
 go_wp2_with (first | (go_at_call 193;refine (hl _).mono ?_;rintro e w' ⟨rfl,rfl⟩) | (go_at_call 216;refine (hp _ _).mono ?_;rintro e w' ⟨rfl,rfl⟩))
 go_end0
 exact ⟨rfl,Go.RowKit.Below.refl _ _⟩
theorem yya : SortLaw Tryz.prog 196 197 2 TRun.v jZ:=SortLaw.of yAa Je (fun _=>rfl) zIa (fun blk off cap d w hH hblk hsz=>yxa blk off cap d w hH hblk hsz)
instance inhcf204 : Inhabited TDot:=⟨⟨0,0⟩⟩
end Go.Proofs

namespace Go.Ep
open Go.RowKit

structure Ef where
 U:List (Nat × PV)
 V:List (Nat × Ob)
def PState.app (s:PState) (e:Ef):PState:={ n:=s.n,sl:=e.U ++ s.sl,objs:=e.V.foldr (fun x l=>putO x.1 x.2 l) s.objs }
structure Ft where
 ws:List Nat
 wo:List Nat:=[]
 ro:List Nat:=[]
 fr:List Nat:=[]
 al:List (Nat × List Nat):=[]
 nm:List Nat:=[]
 no:List Nat:=[]
 ao:List Nat:=[]

def inL (l:List Nat) (i:Nat):Bool:=l.any (Nat.beq i)
theorem zV {l:List Nat} {i:Nat}:inL l i = true ↔ i ∈ l:=by
 unfold inL;rw [List.any_eq_true];exact ⟨fun ⟨x,h1,h2⟩=>(Nat.eq_of_beq_eq_true h2) ▸ h1,fun h=>⟨i,h,Nat.beq_refl i⟩⟩

def PV.named (nm:List Nat):PV -> Bool
 | .ref i _ | .row i _ | .rp i _ _ _ | .pc i _ _ _ | .mp i | .pa i _ _=>inL nm i
 | .agg cs=>namedL nm cs
 | .tup cs=>namedL nm cs
 | _=>true
where namedL (nm:List Nat):List PV -> Bool
 | []=>true
 | c :: r=>c.named nm && namedL nm r
def Ob.named (nm:List Nat):Ob -> Bool
 | .cells _ cs=>PV.named.namedL nm cs
 | .iterO mid _ _ _=>inL nm mid
 | .pin tgt _=>inL nm tgt
 | .mapP _ _ ov _ _=>match ov with | some (_,p)=>p.named nm | none=>true
 | _=>true
mutual
theorem PV.named_has {nm:List Nat} {id:Nat}:∀ {p:PV},p.named nm = true -> p.has id = true -> id ∈ nm
 | .ref i _,h,h2=>by simp only [PV.named,zV,PV.has,beq_iff_eq] at h h2;exact h2 ▸ h
 | .row i _,h,h2=>by simp only [PV.named,zV,PV.has,beq_iff_eq] at h h2;exact h2 ▸ h
 | .rp i _ _ _,h,h2=>by simp only [PV.named,zV,PV.has,beq_iff_eq] at h h2;exact h2 ▸ h
 | .pc i _ _ _,h,h2=>by simp only [PV.named,zV,PV.has,beq_iff_eq] at h h2;exact h2 ▸ h
 | .mp i,h,h2=>by simp only [PV.named,zV,PV.has,beq_iff_eq] at h h2;exact h2 ▸ h
 | .pa i _ _,h,h2=>by simp only [PV.named,zV,PV.has,beq_iff_eq] at h h2;exact h2 ▸ h
 | .agg cs,h,h2=>PV.namedL_has (cs:=cs) h h2
 | .tup cs,h,h2=>PV.namedL_has (cs:=cs) h h2
 | .junk,_,h2=>by simp [PV.has] at h2
 | .und,_,h2=>by simp [PV.has] at h2
 | .d _,_,h2=>by simp [PV.has] at h2
 | .ep _ _,_,h2=>by simp [PV.has] at h2
 | .md _ _ _,_,h2=>by simp [PV.has] at h2
 | .clo _ _,_,h2=>by simp [PV.has] at h2
theorem PV.namedL_has {nm:List Nat} {id:Nat}:∀ {cs:List PV},PV.named.namedL nm cs = true -> PV.has.hasL id cs = true -> id ∈ nm
 | [],_,h2=>by simp [PV.has.hasL] at h2
 | c :: r,h,h2=>by
  simp only [PV.named.namedL,Bool.and_eq_true] at h;simp only [PV.has.hasL,Bool.or_eq_true] at h2;rcases h2 with h2 | h2
  ·exact PV.named_has h.1 h2
  ·exact PV.namedL_has h.2 h2
end
theorem Ob.named_has {nm:List Nat} {id:Nat} {o:Ob} (h:o.named nm = true) (h2:o.has id = true):id ∈ nm:=by
 cases o with
 | cells T cs=>exact PV.namedL_has h h2
 | iterO mid bs ck L=>simp only [Ob.named,zV,Ob.has,beq_iff_eq] at h h2;exact h2 ▸ h
 | pin tgt x=>simp only [Ob.named,zV,Ob.has,beq_iff_eq] at h h2;exact h2 ▸ h
 | mapP ks m ov bs ck=>
  cases ov with
  | none=>cases h2
  | some x=>exact PV.named_has h h2
 | _=>simp [Ob.has] at h2

section
variable {β:Type}
def cont : List (Option β) -> (Nat -> Bool) -> Nat -> Option β -> Option β
 | [],_,_,c=>c
 | x :: r,E,b,c=>cont r E (b + 1) (bif E b then x.or c else c)
theorem ZI : ∀ {l:List (Option β)} {E E':Nat -> Bool} {b:Nat} {c:Option β},(∀ j x,l[j]? = some (some x) -> E (b + j) = E' (b + j)) -> cont l E b c = cont l E' b c
 | [],_,_,_,_,_=>rfl
 | x :: r,E,E',b,c,h=>by
  unfold cont;have h1:(bif E b then x.or c else c) = (bif E' b then x.or c else c):=by
   cases x with
   | none=>cases E b <;> cases E' b <;> rfl
   | some x=>rw [show E b = E' b from h 0 x rfl]
  rw [h1];exact ZI fun j y hj=>by have:=h (j + 1) y (by simpa using hj);rwa [show b + (j + 1) = b + 1 + j by omega] at this
theorem Wh : ∀ {l:List (Option β)} {E:Nat -> Bool} {b:Nat} {c:Option β},(∀ j x,l[j]? = some (some x) -> E (b + j) = false) -> cont l E b c = c
 | [],_,_,_,_=>rfl
 | x :: r,E,b,c,h=>by
  unfold cont;have h1:(bif E b then x.or c else c) = c:=by
   cases x with
   | none=>cases E b <;> rfl
   | some x=>rw [show E b = false from h 0 x rfl];rfl
  rw [h1];exact Wh fun j y hj=>by have:=h (j + 1) y (by simpa using hj);rwa [show b + (j + 1) = b + 1 + j by omega] at this
theorem Jg : ∀ {l:List (Option β)} {E E':Nat -> Bool} {b:Nat} {c:Option β} {i:Nat} {x:Option β},l[i]? = some x -> E' (b + i) = true -> (∀ j,j ≠ b + i -> E' j = E j) -> (x.isSome = true -> ∀ j y,i < j -> l[j]? = some (some y) -> E (b + j) = false) -> E (b + i) = false -> cont l E' b c = x.or (cont l E b c)
 | [],_,_,_,_,_,_,h,_,_,_,_=>by simp at h
 | z :: r,E,E',b,c,0,x,h,h1,h2,h3,h4=>by
  simp at h;subst h;unfold cont;simp only [Nat.add_zero] at h1 h4;rw [h1,h4,cond_true,cond_false];have e:cont r E' (b + 1) (z.or c) = cont r E (b + 1) (z.or c):=ZI fun j y _=>h2 _ (by omega)
  rw [e]
  cases z with
  | none=>rfl
  | some z=>
   have h5:=h3 rfl;have h6:∀ c,cont r E (b + 1) c = c:=fun c=>Wh fun j y hj=>by
    have:=h5 (j + 1) y (by omega) (by simpa using hj)
    rwa [show b + (j + 1) = b + 1 + j by omega] at this
   rw [h6,h6]
 | z :: r,E,E',b,c,i + 1,x,h,h1,h2,h3,h4=>by
  simp at h;unfold cont;rw [h2 b (by omega)];refine Jg h (by rw [<- h1];congr 1;omega) (fun j hj=>h2 j (by omega)) (fun hx j y hij hj=>?_) (by rw [<- h4];congr 1;omega);have:=h3 hx (j + 1) y (by omega) (by simpa using hj)
  rwa [show b + (j + 1) = b + 1 + j by omega] at this
end

theorem Wi : ∀ (U l:List (Nat × PV)) (t:Nat),getS (U ++ l) t = (getS U t).or (getS l t)
 | [],l,t=>by simp [getS]
 | (k,p) :: r,l,t=>by
  rw [List.cons_append,zo,zo]
  split
  ·rfl
  ·exact Wi r l t
theorem look_app (V l:List (Nat × Ob)) (id:Nat):look (V.foldr (fun x l=>putO x.1 x.2 l) l) id = (look V id).or (look l id):=by
 induction V with
 | nil=>simp [look]
 | cons x r ih=>
  obtain ⟨k,o⟩:=x;rw [List.foldr_cons,zC];simp only [look]
  by_cases h:id = k
  ·simp [h]
  ·simp only [h,if_false];exact ih
theorem Wj {U:List (Nat × PV)} {t:Nat}:(getS U t).isSome = true ↔ t ∈ U.map (·.1):=by
 induction U with
 | nil=>simp [getS]
 | cons x r ih=>
  obtain ⟨k,p⟩:=x;rw [zo]
  by_cases h:k = t
  ·simp [h]
  ·simp [h,ih,Ne.symm h]
theorem Wk {V:List (Nat × Ob)} {t:Nat}:(look V t).isSome = true ↔ t ∈ V.map (·.1):=by
 induction V with
 | nil=>simp [look]
 | cons x r ih=>
  obtain ⟨k,p⟩:=x;simp only [look]
  by_cases h:t = k
  ·simp [h]
  ·simp [h,ih]
theorem UF {id k:Nat} {o ob:Ob}:∀ {l:List (Nat × Ob)},(k,o) ∈ putO id ob l -> (k,o) = (id,ob) \/ (k,o) ∈ l
 | [],h=>by simp [putO] at h;exact .inl (by simp [h])
 | (j,p) :: r,h=>by
  unfold putO at h
  split at h
  ·rename_i e
   subst e;rcases List.mem_cons.1 h with e2 | h2
   ·exact .inl e2
   ·exact .inr (List.mem_cons_of_mem _ h2)
  ·split at h
   ·rcases List.mem_cons.1 h with e2 | h2
    ·exact .inl e2
    ·exact .inr h2
   ·rcases List.mem_cons.1 h with e2 | h2
    ·exact .inr (by rw [e2];simp)
    ·rcases UF h2 with h3 | h3
     ·exact .inl h3
     ·exact .inr (List.mem_cons_of_mem _ h3)
theorem app_mem {V l:List (Nat × Ob)} {k:Nat} {o:Ob} (h:(k,o) ∈ V.foldr (fun x l=>putO x.1 x.2 l) l):(k,o) ∈ V \/ (k,o) ∈ l:=by
 induction V with
 | nil=>exact .inr h
 | cons x r ih=>
  rw [List.foldr_cons] at h;rcases UF h with h1 | h1
  ·exact .inl (by rw [h1];simp)
  ·rcases ih h1 with h2 | h2
   ·exact .inl (List.mem_cons_of_mem _ h2)
   ·exact .inr h2

def PState.aloneX (s:PState) (id:Nat) (ao:List Nat):Bool:=chkS id s.sl s.sl && s.objs.all (fun x=>inL ao x.1 || !x.2.has id)
theorem yza {s:PState} {id:Nat} (h:s.aloneX id [] = true):s.alone id = true:=by
 unfold PState.aloneX at h;unfold PState.alone;simpa [inL] using h
section
variable (P:Program) (ctx:Ctx)
def FLocal (o:Oper) (s:PState) (f:Ft) (e:Ef):Prop:=
 ∀ s':PState,s'.n = s.n -> (∀ {x q},xd o x = true -> s.ev x = some q -> s'.ev x = some q) -> (∀ {id ob},id ∈ f.ro -> look s.objs id = some ob -> look s'.objs id = some ob) -> (∀ id ∈ f.fr,s'.fresh id = true) -> (∀ a ∈ f.al,(s'.junks a.2).aloneX a.1 f.ao = true) -> Local P ctx o s' (s'.app e)
def Wd (ops:Array Oper) (o:Oper) (s:PState):Prop:=o.guard = none \/ ∃ j b d,o.guard = some (j,b) /\ (ops[j]?).bind (·.dst) = some d /\ s.at d = some (.d (.v (.bool b)))
def Sk (ops:Array Oper) (o:Oper) (s:PState):Prop:=(∃ j b c d,o.guard = some (j,b) /\ (ops[j]?).bind (·.dst) = some d /\ s.at d = some (.d (.v (.bool c))) /\ c ≠ b) \/ ∃ j b d,o.guard = some (j,b) /\ (ops[j]?).bind (·.dst) = some d /\ s.at d = some .und
def okE (f:Ft) (e:Ef):Bool:=(e.U.map (·.1)).all (inL f.ws) && (e.V.map (·.1)).all (inL f.wo) && e.U.all (fun x=>x.2.named f.nm) && e.V.all (fun x=>x.2.named f.no)
def undE (o:Oper):Ef:=⟨match o.dst with | some d=>[(d,.und)] | none=>[],[]⟩

inductive PQe (ops:Array Oper) (Q:PState -> Prop):List Oper -> List Ft -> PState -> Prop
 | fin {s t:PState} (h:Q t) (hs:Sub ctx s t):PQe ops Q [] [] s
 | step {s:PState} {o:Oper} {rest:List Oper} {f:Ft} {fs:List Ft} {e:Ef} (hl:FLocal P ctx o s f e) (hg:Wd ops o s) (hk:okE f e = true) (h:PQe ops Q rest fs (s.app e)):PQe ops Q (o :: rest) (f :: fs) s
 | skip {s:PState} {o:Oper} {rest:List Oper} {f:Ft} {fs:List Ft} (hg:Sk ops o s) (hk:okE f (undE o) = true) (h:PQe ops Q rest fs (s.app (undE o))):PQe ops Q (o :: rest) (f :: fs) s

def Does (ops:Array Oper) (o:Oper) (s:PState) (f:Ft) (e:Ef):Prop:=okE f e = true /\ ((FLocal P ctx o s f e /\ Wd ops o s) \/ (Sk ops o s /\ e = undE o))
inductive Run (ops:Array Oper):List Oper -> List Ft -> PState -> List Ef -> PState -> Prop
 | nil {s:PState}:Run ops [] [] s [] s
 | cons {o:Oper} {rest:List Oper} {f:Ft} {fs:List Ft} {s t:PState} {e:Ef} {es:List Ef} (y:Does P ctx ops o s f e) (h:Run ops rest fs (s.app e) es t):Run ops (o :: rest) (f :: fs) s (e :: es) t
end
section
variable {P:Program} {ctx:Ctx} {ops:Array Oper}
theorem PQe.run {Q:PState -> Prop} {l:List Oper} {fs:List Ft} {s:PState} (h:PQe P ctx ops Q l fs s):∃ es t,Run P ctx ops l fs s es t /\ ∃ u,Q u /\ Sub ctx t u:=by
 induction h with
 | fin h hs=>exact ⟨[],_,.nil,_,h,hs⟩
 | step hl hg hk _ ih=>obtain ⟨es,t,h1,h2⟩:=ih;exact ⟨_,t,.cons ⟨hk,.inl ⟨hl,hg⟩⟩ h1,h2⟩
 | skip hg hk _ ih=>obtain ⟨es,t,h1,h2⟩:=ih;exact ⟨_,t,.cons ⟨hk,.inr ⟨hg,rfl⟩⟩ h1,h2⟩

def Uk (ops:List Oper):List (List Nat):=ops.foldl (fun acc o=>acc ++ [o.after.toList.foldl (fun l e=>bif Region.binds .any e then e.on :: ((acc[e.on]?).getD [] ++ l) else l) []]) []
def Xs (a b:List Nat):Bool:=a.any (inL b)
def YE (f g:Ft) (rf rg:List Nat):Bool:=
 Xs f.ws g.ws || Xs f.ws rg || Xs rf g.ws || Xs f.wo g.wo || Xs f.wo g.ro || Xs f.ro g.wo ||
 Xs f.fr g.nm || Xs f.fr g.no || Xs f.fr g.wo || Xs f.fr g.fr || (f.al.any fun a=>inL g.nm a.1) || (g.al.any fun a=>inL f.nm a.1) || (f.al.any fun a=>inL g.no a.1)
def zJa (f g:Ft):Bool:=Xs g.fr f.nm || Xs g.fr f.no || Xs g.fr f.wo || (g.al.any fun a=>inL f.no a.1 || (inL f.nm a.1 && !f.ws.all (inL a.2)))
def xP (ops:Array Oper) (i:Nat):List Nat:=match ops[i]? with | some o=>o.looksAt ops | none=>[]
def drawE (ops:Array Oper) (fs:List Ft):Bool:=
 let pr:=Uk ops.toList
 Nat.beq fs.length ops.size &&
 ((List.range ops.size).all fun j=>match ops[j]?,fs[j]? with
  | some o,some g=>o.after.toList.all (fun e=>Nat.blt e.on j || !Region.binds .any e) && g.fr.all (fun id=>!inL g.ro id) && (List.range j).all fun i=>match fs[i]? with
    | some f=>!zJa f g && (!YE f g (xP ops i) (xP ops j) || inL ((pr[j]?).getD []) i)
    | none=>false
  | _,_=>false)
def xqa (s:PState) (fs:List Ft):Bool:=fs.all fun f=>f.fr.all (fun id=>s.sl.all (fun x=>!x.2.has id) && s.objs.all (fun x=>x.1 != id && !x.2.has id)) &&
 f.al.all fun a=>s.sl.all (fun x=>!x.2.has a.1 || inL a.2 x.1) && s.objs.all (fun x=>inL f.ao x.1 || !x.2.has a.1)
end
end Go.Ep
namespace Go.Ep
open Go.RowKit
section
variable {P:Program} {ctx:Ctx} {ops:Array Oper}
theorem yu {a b:List Nat}:Xs a b = true ↔ ∃ x,x ∈ a /\ x ∈ b:=by
 unfold Xs;rw [List.any_eq_true];simp only [zV]

structure DrawFacts (ops:Array Oper) (fs:List Ft):Prop where
 len:fs.length = ops.size
 edge:∀ {i:Nat} {o:Oper},ops[i]? = some o -> ∀ e:Edge,e ∈ o.after -> Region.binds .any e = true -> e.on < i
 fro:∀ {j:Nat} {g:Ft},fs[j]? = some g -> ∀ id ∈ g.fr,id ∉ g.ro
 pair:∀ {i j:Nat} {f g:Ft},i < j -> fs[i]? = some f -> fs[j]? = some g -> zJa f g = false /\ (YE f g (xP ops i) (xP ops j) = true -> i ∈ ((Uk ops.toList)[j]?).getD [])
theorem zKa {fs:List Ft} (h:drawE ops fs = true):DrawFacts ops fs:=by
 unfold drawE at h;simp only [Bool.and_eq_true,List.all_eq_true,List.mem_range] at h;obtain ⟨h0,h1⟩:=h;have hlen:=Nat.eq_of_beq_eq_true h0;refine ⟨hlen,fun {i o} hi e he hbe=>?_,fun {j g} hj id hid=>?_,fun {i j f g} hij hi hj=>?_⟩
 ·have hlt:=(Array.getElem?_eq_some_iff.1 hi).1;have:=h1 i hlt;rw [hi,List.getElem?_eq_getElem (by omega:i < fs.length)] at this;simp only [Bool.and_eq_true,List.all_eq_true] at this;simpa [Nat.blt_eq,hbe] using this.1.1 e (by simpa using he)
 ·have hlt:j < ops.size:=by have:=(List.getElem?_eq_some_iff.1 hj).1;omega
  have:=h1 j hlt;rw [hj,Array.getElem?_eq_getElem hlt] at this;simp only [Bool.and_eq_true,List.all_eq_true] at this;have:=this.1.2 id hid;simp only [Bool.not_eq_true',<- Bool.not_eq_true,zV] at this;exact this
 ·have hlt:j < ops.size:=by have:=(List.getElem?_eq_some_iff.1 hj).1;omega
  have:=h1 j hlt;rw [hj,Array.getElem?_eq_getElem hlt] at this;simp only [Bool.and_eq_true,List.all_eq_true,List.mem_range] at this;have:=this.2 i hij;rw [hi] at this;simp only [Bool.and_eq_true,Bool.or_eq_true,Bool.not_eq_true',zV] at this;refine ⟨this.1,fun hc=>?_⟩;rcases this.2 with h2 | h2
  ·rw [hc] at h2;cases h2
  ·exact h2

def DownC (ops:Array Oper) (E:Nat -> Bool):Prop:=∀ j,E j = true -> ∀ k ∈ ((Uk ops.toList)[j]?).getD [],E k = true
def accP (acc:List (List Nat)) (o:Oper):List (List Nat):=acc ++ [o.after.toList.foldl (fun l e=>bif Region.binds .any e then e.on :: ((acc[e.on]?).getD [] ++ l) else l) []]
theorem xra (l:List Oper):∀ (acc:List (List Nat)) (j:Nat),j < acc.length -> (l.foldl accP acc)[j]? = acc[j]?:=by
 induction l with
 | nil=>intro acc j _;rfl
 | cons o r ih=>
  intro acc j hj;rw [List.foldl_cons,ih _ _ (by simp [accP];omega)];unfold accP;rw [List.getElem?_append_left hj]
theorem xsa {acc:List (List Nat)} (es:List Edge):∀ (l:List Nat) (k:Nat),k ∈ es.foldl (fun l e=>bif Region.binds .any e then e.on :: ((acc[e.on]?).getD [] ++ l) else l) l -> k ∈ l \/ ∃ e ∈ es,Region.binds .any e = true /\ (k = e.on \/ k ∈ (acc[e.on]?).getD []):=by
 induction es with
 | nil=>intro l k h;exact .inl h
 | cons e r ih=>
  intro l k h;rw [List.foldl_cons] at h;rcases ih _ k h with h1 | ⟨e',he',h1⟩
  ·cases hb:Region.binds .any e with
   | false=>rw [hb] at h1;exact .inl h1
   | true=>
    rw [hb] at h1;simp only [cond_true,List.mem_cons,List.mem_append] at h1;rcases h1 with h1 | h1 | h1
    ·exact .inr ⟨e,by simp,hb,.inl h1⟩
    ·exact .inr ⟨e,by simp,hb,.inr h1⟩
    ·exact .inl h1
  ·exact .inr ⟨e',List.mem_cons_of_mem _ he',h1⟩
theorem jr : ∀ (l:List Oper) (acc:List (List Nat)),(∀ i o,l[i]? = some o -> ∀ e ∈ o.after,Region.binds .any e = true -> e.on < acc.length + i) -> ∀ i o,l[i]? = some o -> ∀ k ∈ ((l.foldl accP acc)[acc.length + i]?).getD [],∃ e ∈ o.after,Region.binds .any e = true /\ (k = e.on \/ k ∈ ((l.foldl accP acc)[e.on]?).getD [])
 | [],_,_,i,o,h,_,_=>by simp at h
 | o0 :: r,acc,hed,0,o,h,k,hk=>by
  simp at h;subst h;rw [Nat.add_zero,List.foldl_cons,xra _ _ _ (by simp [accP])] at hk;have e1:(accP acc o0)[acc.length]? = some (o0.after.toList.foldl (fun l e=>bif Region.binds .any e then e.on :: ((acc[e.on]?).getD [] ++ l) else l) []):=by simp [accP]
  rw [e1] at hk;rcases xsa _ _ k hk with h1 | ⟨e,he,hb,h1⟩
  ·cases h1
  ·refine ⟨e,by simpa using he,hb,?_⟩;rcases h1 with h1 | h1
   ·exact .inl h1
   ·right
    have hlt:e.on < acc.length:=by have:=hed 0 o0 rfl e (by simpa using he) hb;simpa using this
    rw [List.foldl_cons,xra _ _ _ (by simp [accP];omega)];unfold accP;rw [List.getElem?_append_left hlt];exact h1
 | o0 :: r,acc,hed,i + 1,o,h,k,hk=>by
  have hl:(accP acc o0).length = acc.length + 1:=by simp [accP]
  have:=jr r (accP acc o0) (fun j o' hj e he hbe=>by have:=hed (j + 1) o' (by simpa using hj) e he hbe;rw [hl];omega) i o (by simpa using h) k (by
   rw [hl,show acc.length + 1 + i = acc.length + (i + 1) by omega];exact hk)
  exact this
theorem preds_ok {fs:List Ft} (F:DrawFacts ops fs) {E:Nat -> Bool} (h:DownC ops E) {i:Nat} {o:Oper} (ho:ops[i]? = some o) (hr:∀ e ∈ o.after,Region.binds .any e = true -> E e.on = true):∀ k ∈ ((Uk ops.toList)[i]?).getD [],E k = true:=by
 intro k hk;have hf:Uk ops.toList = ops.toList.foldl accP []:=rfl;rw [hf] at hk;obtain ⟨e,he,hb,h1⟩:=jr ops.toList [] (fun i o hi e he hbe=>by have:=F.edge (i:=i) (o:=o) (by simpa using hi) e he hbe;simpa using this) i o (by simpa using ho) k (by rw [List.length_nil,Nat.zero_add];exact hk);rcases h1 with rfl | h1
 ·exact hr e he hb
 ·exact h e.on (hr e he hb) k h1

theorem Wl {l:List Nat} {i:Nat}:inL l i = false ↔ i ∉ l:=by rw [<- Bool.not_eq_true,zV]
theorem Ul {id:Nat} {full:List (Nat × PV)}:∀ {l:List (Nat × PV)},(∀ x ∈ l,x.2.has id = true -> ∀ q,getS full x.1 = some q -> q.has id = false) -> chkS id full l = true
 | [],_=>rfl
 | (k,p) :: r,h=>by
  unfold chkS;have ih:=Ul (l:=r) (full:=full) (id:=id) fun x hx=>h x (List.mem_cons_of_mem _ hx)
  cases hb:p.has id with
  | false=>exact ih
  | true=>
   rw [cond_true,ih,Bool.and_true]
   cases hg:getS full k with
   | none=>rfl
   | some q=>simp [h (k,p) (by simp) hb q hg]
theorem QD (js:List Nat):∀ (s:PState) (x:Nat × PV),x ∈ (s.junks js).sl -> x.2 = .junk \/ x ∈ s.sl:=by
 induction js with
 | nil=>intro s x h;exact .inr h
 | cons d r ih=>
  intro s x h;rcases ih _ x h with h1 | h1
  ·exact .inl h1
  ·rcases List.mem_cons.1 h1 with h2 | h2
   ·exact .inl (by rw [h2])
   ·exact .inr h2
theorem xta (js:List Nat):∀ (s:PState) (t:Nat),(t ∈ js -> getS (s.junks js).sl t = some PV.junk) /\ (getS s.sl t = some PV.junk -> getS (s.junks js).sl t = some PV.junk):=by
 induction js with
 | nil=>intro s t;exact ⟨fun h=>absurd h List.not_mem_nil,fun h=>h⟩
 | cons d r ih=>
  intro s t;have h2:getS s.sl t = some .junk -> getS (s.put d .junk).sl t = some .junk:=fun h=>by
   rw [PState.put,zo];split
   ·rfl
   ·exact h
  refine ⟨fun h=>?_,fun h=>(ih _ t).2 (h2 h)⟩;rcases List.mem_cons.1 h with rfl | h
  ·exact (ih _ t).2 (by rw [PState.put,zo,if_pos rfl])
  ·exact (ih _ t).1 h
theorem alone_of {s:PState} {id:Nat} {js ao:List Nat} (h1:∀ x ∈ s.sl,x.2.has id = true -> x.1 ∈ js) (h2:∀ x ∈ s.objs,inL ao x.1 = true \/ x.2.has id = false):(s.junks js).aloneX id ao = true:=by
 unfold PState.aloneX;rw [Bool.and_eq_true];refine ⟨Ul fun x hx hh q hq=>?_,List.all_eq_true.2 fun x hx=>?_⟩
 ·rcases QD js s x hx with h | h
  ·rw [h] at hh;simp [PV.has] at hh
  ·rw [(xta js s x.1).1 (h1 x h hh)] at hq
   cases hq
   rfl
 ·rw [yC] at hx;rcases h2 x hx with h | h <;> simp [h]
theorem fresh_of {s:PState} {id:Nat} (h1:∀ x ∈ s.sl,x.2.has id = false) (h2:∀ x ∈ s.objs,x.1 ≠ id /\ x.2.has id = false):s.fresh id = true:=by
 unfold PState.fresh;rw [Bool.and_eq_true];refine ⟨Ul fun x hx hh=>?_,List.all_eq_true.2 fun x hx=>?_⟩
 ·rw [h1 x hx] at hh;cases hh
 ·simp [h2 x hx]

structure InvE (s0:PState) (es:List Ef) (E:Nat -> Bool) (s:PState):Prop where
 n:s.n = s0.n
 sl:∀ t,getS s.sl t = cont (es.map fun e=>getS e.U t) E 0 (getS s0.sl t)
 ob:∀ id,look s.objs id = cont (es.map fun e=>look e.V id) E 0 (look s0.objs id)
 ms:∀ x ∈ s.sl,x ∈ s0.sl \/ ∃ j e,E j = true /\ es[j]? = some e /\ x ∈ e.U
 mo:∀ x ∈ s.objs,x ∈ s0.objs \/ ∃ j e,E j = true /\ es[j]? = some e /\ x ∈ e.V
theorem InvE.zero {s0:PState} {es:List Ef} {E:Nat -> Bool} (h:∀ j,E j = false):InvE s0 es E s0:=
 ⟨rfl,fun _=>(Wh fun _ _ _=>h _).symm,fun _=>(Wh fun _ _ _=>h _).symm,fun _ h=>.inl h,fun _ h=>.inl h⟩
theorem InvE.step {s0 s:PState} {es:List Ef} {E E':Nat -> Bool} (h:InvE s0 es E s) {i:Nat} {e:Ef} (hi:es[i]? = some e) (h0:E i = false) (h1:E' i = true) (hE:∀ j,j ≠ i -> E' j = E j)
  (hU:∀ j e',i < j -> es[j]? = some e' -> E j = true -> ∀ t,t ∈ e.U.map (·.1) -> t ∉ e'.U.map (·.1)) (hV:∀ j e',i < j -> es[j]? = some e' -> E j = true -> ∀ t,t ∈ e.V.map (·.1) -> t ∉ e'.V.map (·.1)):InvE s0 es E' (s.app e):=by
 have hlt:∀ j,E j = true -> j ≠ i:=fun j hj e=>by rw [e,h0] at hj;cases hj
 refine ⟨h.n,fun t=>?_,fun id=>?_,fun x hx=>?_,fun x hx=>?_⟩
 ·show getS (e.U ++ s.sl) t = _;rw [Wi,h.sl];refine (Jg (i:=i) (by simp [hi]) (by simpa using h1) (fun j hj=>hE j (by simpa using hj)) (fun hx j y hij hj=>?_) (by simpa using h0)).symm;rw [Nat.zero_add]
  cases hb:E j with
  | false=>rfl
  | true=>
   rw [List.getElem?_map] at hj
   cases he:es[j]? with
   | none=>rw [he] at hj;cases hj
   | some e'=>
    rw [he] at hj;simp only [Option.map_some,Option.some.injEq] at hj;exact absurd (Wj.1 (by rw [hj];rfl)) (hU j e' hij he hb t (Wj.1 hx))
 ·show look (e.V.foldr _ s.objs) id = _;rw [look_app,h.ob];refine (Jg (i:=i) (by simp [hi]) (by simpa using h1) (fun j hj=>hE j (by simpa using hj)) (fun hx j y hij hj=>?_) (by simpa using h0)).symm;rw [Nat.zero_add]
  cases hb:E j with
  | false=>rfl
  | true=>
   rw [List.getElem?_map] at hj
   cases he:es[j]? with
   | none=>rw [he] at hj;cases hj
   | some e'=>
    rw [he] at hj;simp only [Option.map_some,Option.some.injEq] at hj;exact absurd (Wk.1 (by rw [hj];rfl)) (hV j e' hij he hb id (Wk.1 hx))
 ·rcases List.mem_append.1 hx with hx | hx
  ·exact .inr ⟨i,e,h1,hi,hx⟩
  ·rcases h.ms x hx with h2 | ⟨j,e',a,b,c⟩
   ·exact .inl h2
   ·exact .inr ⟨j,e',by rw [hE j (hlt j a)];exact a,b,c⟩
 ·rcases app_mem (k:=x.1) (o:=x.2) hx with hx | hx
  ·exact .inr ⟨i,e,h1,hi,hx⟩
  ·rcases h.mo x hx with h2 | ⟨j,e',a,b,c⟩
   ·exact .inl h2
   ·exact .inr ⟨j,e',by rw [hE j (hlt j a)];exact a,b,c⟩

theorem Does.run {o:Oper} {s s':PState} {f:Ft} {e:Ef} (y:Does P ctx ops o s f e) (hn:s'.n = s.n) (hl:∀ t,t ∈ o.looksAt ops -> getS s'.sl t = getS s.sl t) (ho:∀ id ∈ f.ro,look s'.objs id = look s.objs id)
  (hf:∀ id ∈ f.fr,s'.fresh id = true) (ha:∀ a ∈ f.al,(s'.junks a.2).aloneX a.1 f.ao = true) {i:Nat} (hi:ops[i]? = some o) {a:Act} {w:World} (hr:Rel ctx s' a w) {K:Act -> World -> Prop} {Qx:Exit -> Act -> World -> Prop}
  (hK:∀ a' w',Rel ctx (s'.app e) a' w' -> K a' w'):wpOp P ops Qx i K a w:=by
 have hat:∀ t,t ∈ o.looksAt ops -> s'.at t = s.at t:=fun t ht=>by rw [YH,YH,hn,hl t ht]
 have hund:s'.app (undE o) = s'.putD o.dst .und:=by unfold undE;cases o.dst <;> rfl
 unfold wpOp;simp only [hi];rcases y.2 with ⟨hd,hg⟩ | ⟨hg,rfl⟩
 ·have hloc:Local P ctx o s' (s'.app e):=by
   refine hd s' hn (fun {x q} hx hq=>?_) (fun {id ob} hid h=>by rw [ho id hid];exact h) hf ha
   cases x with
   | tmp t=>
    show s'.at t = some q;rw [hat t ?_]
    ·exact hq
    ·simp only [xd,List.any_eq_true] at hx;obtain ⟨x,hx1,hx2⟩:=hx;unfold Oper.looksAt;refine List.mem_append_left _ (List.mem_filterMap.2 ⟨x,hx1,?_⟩)
     cases x with
     | tmp u=>simp only at hx2;rw [Nat.eq_of_beq_eq_true hx2]
     | _=>simp at hx2
   | const v=>cases v <;> exact hq
   | func f=>exact hq
   | global g=>exact hq
  have hw:Region.wanted o (yielded ops a.tmps) = true:=by
   rcases hg with hg | ⟨j,b,d,hg,hd2,hs⟩
   ·simp [Region.wanted,hg]
   ·obtain ⟨g,hrg⟩:=hr;have hs':s'.at d = some (.d (.v (.bool b))):=by
     rw [hat d (by unfold Oper.looksAt;rw [hg];refine List.mem_append_right _ ?_;simp [hd2])];exact hs
    simp [Region.wanted,hg,vq hrg hd2 hs']
  rw [if_pos hw];exact .inl (hloc a w hr K Qx hK)
 ·rw [hund] at hK;obtain ⟨g,hrg⟩:=hr;rcases hg with ⟨j,b,c,d,hg,hd,hs,hbc⟩ | ⟨j,b,d,hg,hd,hs⟩
  ·have hs':s'.at d = some (.d (.v (.bool c))):=by
    rw [hat d (by unfold Oper.looksAt;rw [hg];refine List.mem_append_right _ ?_;simp [hd])];exact hs
   have hw:Region.wanted o (yielded ops a.tmps) = false:=by simp [Region.wanted,hg,vq hrg hd hs',hbc]
   rw [hw];exact hK _ _ ⟨g,hrg.put o.dst Rd.und⟩
  ·have hs':s'.at d = some .und:=by
    rw [hat d (by unfold Oper.looksAt;rw [hg];refine List.mem_append_right _ ?_;simp [hd])];exact hs
   have hw:Region.wanted o (yielded ops a.tmps) = false:=by simp [Region.wanted,hg,Xg hrg hd hs']
   rw [hw];exact hK _ _ ⟨g,hrg.put o.dst Rd.und⟩

theorem Run.lens {l:List Oper} {fs:List Ft} {s t:PState} {es:List Ef} (h:Run P ctx ops l fs s es t):es.length = l.length /\ fs.length = l.length:=by
 induction h with
 | nil=>exact ⟨rfl,rfl⟩
 | cons _ _ ih=>exact ⟨by simp [ih.1],by simp [ih.2]⟩
theorem Run.at_ : ∀ {rest:List Oper} {fs:List Ft} {s t s0:PState} {es pre all:List Ef} {b:Nat},Run P ctx ops rest fs s es t -> all = pre ++ es -> pre.length = b -> InvE s0 all (fun j=>decide (j < b)) s ->
  (∀ (i:Nat) (o:Oper) (f:Ft),rest[i]? = some o -> fs[i]? = some f -> ∃ S e,all[b + i]? = some e /\ InvE s0 all (fun j=>decide (j < b + i)) S /\ Does P ctx ops o S f e) /\ InvE s0 all (fun j=>decide (j < b + rest.length)) t:=by
 intro rest
 induction rest with
 | nil=>
  intro fs s t s0 es pre all b h _ _ hh
  cases h
  exact ⟨by simp,by simpa using hh⟩
 | cons o rest ih=>
  intro fs s t s0 es pre all b h hall hb hh
  cases h with
  | @cons _ _ f fs _ _ e es y h=>
   have he:all[b]? = some e:=by subst hall;subst hb;simp
   have hst:InvE s0 all (fun j=>decide (j < b + 1)) (s.app e):=hh.step he (by simp) (by simp) (fun j hj=>by
    have:(j < b + 1) = (j < b):=by apply propext;omega
    simp only [this]) (fun j _ hj _ hE=>by simp at hE;omega) (fun j _ hj _ hE=>by simp at hE;omega)
   obtain ⟨h1,h2⟩:=ih (b:=b + 1) (pre:=pre ++ [e]) h (by simp [hall]) (by simp [hb]) hst;refine ⟨fun i o' f' ho hf=>?_,by rw [List.length_cons,show b + (rest.length + 1) = b + 1 + rest.length by omega];exact h2⟩
   cases i with
   | zero=>simp at ho hf;subst ho;subst hf;exact ⟨s,e,he,hh,y⟩
   | succ i=>
    simp at ho hf;obtain ⟨S,q,e1,e2,e3⟩:=h1 i o' f' ho hf;exact ⟨S,q,by rw [<- e1];congr 1;omega,by rw [show b + (i + 1) = b + 1 + i by omega];exact e2,e3⟩

theorem DrawFacts.ahead {fs:List Ft} (F:DrawFacts ops fs) {E:Nat -> Bool} (h:DownC ops E) {i j:Nat} {f g:Ft} (hij:i < j) (hi:fs[i]? = some f) (hj:fs[j]? = some g) (hc:YE f g (xP ops i) (xP ops j) = true) (hE:E j = true):E i = true:=
 h j hE i ((F.pair hij hi hj).2 hc)

theorem y0a {s0 S:PState} {fs:List Ft} {es:List Ef} {Qx:Exit -> Act -> World -> Prop} (F:DrawFacts ops fs) (hS0:xqa s0 fs = true) (hlen:es.length = ops.size)
  (hY:∀ (i:Nat) (o:Oper) (f:Ft),ops[i]? = some o -> fs[i]? = some f -> ∃ T e,es[i]? = some e /\ InvE s0 es (fun j=>decide (j < i)) T /\ Does P ctx ops o T f e) (hS:InvE s0 es (fun j=>decide (j < ops.size)) S)
  (hQ:∀ a w,Rel ctx S a w -> Qx .normal a w):∀ (fuel:Nat) (listed:Array Bool) (s:PState) (a:Act) (w:World),listed.size = ops.size -> listed.toList.count false <= fuel -> InvE s0 es (fun j=>listed.getD j false) s -> DownC ops (fun j=>listed.getD j false) -> Rel ctx s a w ->
   wpAny P .any ops Qx fuel listed a w:=by
 have hfs:∀ i,i < ops.size -> ∃ f,fs[i]? = some f:=fun i hi=>⟨fs[i]'(by rw [F.len];exact hi),List.getElem?_eq_getElem _⟩
 have hok:∀ {i:Nat} {e:Ef},es[i]? = some e -> ∃ f,fs[i]? = some f /\ okE f e = true:=fun {i e} he=>by
  have hi:i < ops.size:=by rw [<- hlen];exact (List.getElem?_eq_some_iff.1 he).1
  obtain ⟨f,hf⟩:=hfs i hi;obtain ⟨T,e',h1,_,h2⟩:=hY i ops[i] f (Array.getElem?_eq_getElem hi) hf;rw [he] at h1
  cases h1
  exact ⟨f,hf,h2.1⟩
 have okU:∀ {f:Ft} {e:Ef},okE f e = true -> (∀ t,t ∈ e.U.map (·.1) -> t ∈ f.ws) /\ (∀ t,t ∈ e.V.map (·.1) -> t ∈ f.wo) /\ (∀ x ∈ e.U,x.2.named f.nm = true) /\ (∀ x ∈ e.V,x.2.named f.no = true):=fun {f e} h=>by
  simp only [okE,Bool.and_eq_true,List.all_eq_true] at h;exact ⟨fun t ht=>zV.1 (h.1.1.1 t ht),fun t ht=>zV.1 (h.1.1.2 t ht),h.1.2,h.2⟩
 have hall:∀ listed:Array Bool,listed.size = ops.size -> Region.ready .any ops listed = [] -> ∀ i,i < ops.size -> listed.getD i false = true:=by
  intro listed hsz hr i
  induction i using Nat.strongRecOn with
  | _ i ih=>
   intro hi
   cases hb:listed.getD i false with
   | true=>rfl
   | false=>
    have hlt:i < listed.size:=by omega
    have hmem:i ∈ Region.ready .any ops listed:=by
     refine uu.2 ⟨hi,?_,ops[i],Array.getElem?_eq_getElem hi,fun e he hbe=>?_⟩
     ·simp [Array.getD,hlt] at hb ⊢;exact hb
     ·have:=F.edge (Array.getElem?_eq_getElem hi) e he hbe;exact ih e.on this (by omega)
    rw [hr] at hmem
    cases hmem
 have hfin:∀ (listed:Array Bool) (s:PState) (a:Act) (w:World),listed.size = ops.size -> InvE s0 es (fun j=>listed.getD j false) s -> Rel ctx s a w -> Region.ready .any ops listed = [] -> Qx .normal a w:=by
  intro listed s a w hsz hh hr hrdy;have ha:=hall listed hsz hrdy;have hlt:∀ {β:Type} {g:Ef -> Option β} {k:Nat} {x:β},(es.map g)[k]? = some (some x) -> k < ops.size:=fun {β g k x} hk=>by
   have:=(List.getElem?_eq_some_iff.1 hk).1;rw [List.length_map] at this;omega
  refine hQ a w (Sub.drop (s:=s) (t:=S) (by rw [hh.n,hS.n]) (fun i p hp=>?_) (fun id o ho=>?_) a w hr)
  ·rw [YH] at hp ⊢;rw [hh.n,<- hS.n,hh.sl];rw [hS.sl] at hp;rw [<- hp]
   split
   ·exact ZI fun j x hj=>by have:=hlt hj;simp only [Nat.zero_add,ha j this,this,decide_true]
   ·rfl
  ·rw [hh.ob];rw [hS.ob] at ho;rw [<- ho];exact ZI fun j x hj=>by have:=hlt hj;simp only [Nat.zero_add,ha j this,this,decide_true]
 intro fuel
 induction fuel with
 | zero=>
  intro listed s a w hsz hc hh _ hr;have hrdy:Region.ready .any ops listed = []:=by
   apply List.eq_nil_iff_forall_not_mem.2;intro i hi;obtain ⟨h1,h2,_⟩:=uu.1 hi;have hlt:i < listed.size:=by omega
   have hm:false ∈ listed.toList:=by
    simp [Array.getD,hlt] at h2;rw [<- h2];simp
   have:=List.count_pos_iff.2 hm;omega
  exact ⟨hrdy,hfin listed s a w hsz hh hr hrdy⟩
 | succ fuel ih=>
  intro listed s a w hsz hc hh hdn hr;refine ⟨hfin listed s a w hsz hh hr,fun i hi=>?_⟩;obtain ⟨h1,h2,o,ho,he⟩:=uu.1 hi;have hlt:i < listed.size:=by omega
  have hli:listed[i] = false:=by simpa [Array.getD,hlt] using h2
  have hi0:listed.getD i false = false:=by simp [Array.getD,hlt,hli]
  have hpr:=preds_ok F hdn ho he;obtain ⟨f,hf⟩:=hfs i h1;obtain ⟨T,e,hee,hT,y⟩:=hY i o f ho hf;have hre:xP ops i = o.looksAt ops:=by simp [xP,ho]
  -- how another operation stands to this one
  have hbef:∀ {j:Nat} {g:Ft},j < i -> fs[j]? = some g -> YE g f (xP ops j) (xP ops i) = true -> listed.getD j false = true:=fun {j g} hji hg hcl=>hpr j ((F.pair hji hg hf).2 hcl)
  have haft:∀ {j:Nat} {g:Ft},i < j -> fs[j]? = some g -> YE f g (xP ops i) (xP ops j) = true -> listed.getD j false = false:=fun {j g} hij hg hcl=>by
   cases hb:listed.getD j false with
   | false=>rfl
   | true=>have:=F.ahead hdn hij hf hg hcl hb;rw [hi0] at this;cases this
  have same:∀ {β:Type} (wr:Ef -> Option β) (c:Option β),(∀ j e' g,j < i -> es[j]? = some e' -> (wr e').isSome = true -> fs[j]? = some g -> okE g e' = true -> YE g f (xP ops j) (xP ops i) = true) ->
    (∀ j e' g,i < j -> es[j]? = some e' -> (wr e').isSome = true -> fs[j]? = some g -> okE g e' = true -> YE f g (xP ops i) (xP ops j) = true) ->
    cont (es.map wr) (fun j=>listed.getD j false) 0 c = cont (es.map wr) (fun j=>decide (j < i)) 0 c:=fun {β} wr c hb ha=>by
   refine ZI fun j x hj=>?_
   rw [List.getElem?_map] at hj
   cases hej:es[j]? with
   | none=>rw [hej] at hj;cases hj
   | some e'=>
    rw [hej] at hj;simp only [Option.map_some,Option.some.injEq] at hj;obtain ⟨g,hg,hk⟩:=hok hej;simp only [Nat.zero_add];rcases Nat.lt_trichotomy j i with hji | hji | hji
    ·rw [hbef hji hg (hb j e' g hji hej (by rw [hj];rfl) hg hk)];simp [hji]
    ·subst hji;rw [hi0];simp
    ·rw [haft hji hg (ha j e' g hji hej (by rw [hj];rfl) hg hk)];simp;omega
  have nm1:∀ {id j:Nat} {e':Ef} {g:Ft} {x:Nat × PV},fs[j]? = some g -> okE g e' = true -> x ∈ e'.U -> x.2.has id = true -> id ∈ g.nm:=fun {id j e' g x} _ hk hx hh=>PV.named_has ((okU hk).2.2.1 x hx) hh
  have nm2:∀ {id j:Nat} {e':Ef} {g:Ft} {x:Nat × Ob},fs[j]? = some g -> okE g e' = true -> x ∈ e'.V -> x.2.has id = true -> id ∈ g.no:=fun {id j e' g x} _ hk hx hh=>Ob.named_has ((okU hk).2.2.2 x hx) hh
  simp only [xqa,List.all_eq_true,Bool.and_eq_true,Bool.or_eq_true,Bool.not_eq_true',bne_iff_ne,ne_eq,zV] at hS0;have hSf:=hS0 f (List.mem_of_getElem? hf);refine y.run (hh.n.trans hT.n.symm) (fun t ht=>?_) (fun id hid=>?_) (fun id hid=>?_) (fun al hal=>?_) ho hr fun a' w' hr'=>?_
  ·rw [hh.sl,hT.sl];rw [<- hre] at ht;exact same (fun e=>getS e.U t) _ (fun j e' g _ _ hw _ hk=>by
    have:=yu.2 ⟨t,(okU hk).1 t (Wj.1 hw),ht⟩;simp [YE,this]) (fun j e' g _ _ hw _ hk=>by
    have:=yu.2 ⟨t,ht,(okU hk).1 t (Wj.1 hw)⟩;simp [YE,this])
  ·rw [hh.ob,hT.ob];exact same (fun e=>look e.V id) _ (fun j e' g _ _ hw _ hk=>by
    have:=yu.2 ⟨id,(okU hk).2.1 id (Wk.1 hw),hid⟩;simp [YE,this]) (fun j e' g _ _ hw _ hk=>by
    have:=yu.2 ⟨id,hid,(okU hk).2.1 id (Wk.1 hw)⟩;simp [YE,this])
  ·refine fresh_of (fun x hx=>?_) (fun x hx=>?_)
   ·rcases hh.ms x hx with h3 | ⟨j,e',hEj,hej,hxe⟩
    ·exact (hSf.1 id hid).1 x h3
    ·cases hb:x.2.has id with
     | false=>rfl
     | true=>
      exfalso;obtain ⟨g,hg,hk⟩:=hok hej;have hn:=nm1 hg hk hxe hb;rcases Nat.lt_trichotomy j i with hji | hji | hji
      ·have:=(F.pair hji hg hf).1;simp [zJa,yu.2 ⟨id,hid,hn⟩] at this
      ·subst hji;rw [hi0] at hEj;cases hEj
      ·rw [haft hji hg (by simp [YE,yu.2 ⟨id,hid,hn⟩])] at hEj;cases hEj
   ·rcases hh.mo x hx with h3 | ⟨j,e',hEj,hej,hxe⟩
    ·exact (hSf.1 id hid).2 x h3
    ·obtain ⟨g,hg,hk⟩:=hok hej
     constructor
     ·intro hid2;have hn:id ∈ g.wo:=(okU hk).2.1 id (List.mem_map.2 ⟨x,hxe,hid2⟩);rcases Nat.lt_trichotomy j i with hji | hji | hji
      ·have:=(F.pair hji hg hf).1;simp [zJa,yu.2 ⟨id,hid,hn⟩] at this
      ·subst hji;rw [hi0] at hEj;cases hEj
      ·rw [haft hji hg (by simp [YE,yu.2 ⟨id,hid,hn⟩])] at hEj;cases hEj
     ·cases hb:x.2.has id with
      | false=>rfl
      | true=>
       exfalso;have hn:=nm2 hg hk hxe hb;rcases Nat.lt_trichotomy j i with hji | hji | hji
       ·have:=(F.pair hji hg hf).1;simp [zJa,yu.2 ⟨id,hid,hn⟩] at this
       ·subst hji;rw [hi0] at hEj;cases hEj
       ·rw [haft hji hg (by simp [YE,yu.2 ⟨id,hid,hn⟩])] at hEj;cases hEj
  ·refine alone_of (fun x hx hb=>?_) (fun x hx=>?_)
   ·rcases hh.ms x hx with h3 | ⟨j,e',hEj,hej,hxe⟩
    ·rcases (hSf.2 al hal).1 x h3 with h4 | h4
     ·rw [hb] at h4;cases h4
     ·exact h4
    ·obtain ⟨g,hg,hk⟩:=hok hej;have hn:=nm1 hg hk hxe hb;rcases Nat.lt_trichotomy j i with hji | hji | hji
     ·have:=(F.pair hji hg hf).1;simp only [zJa,Bool.or_eq_false_iff,List.any_eq_false] at this;have h5:=this.2 al hal;simp only [Bool.or_eq_true,Bool.and_eq_true,zV,Bool.not_eq_true',not_or,not_and,Bool.not_eq_false,List.all_eq_true] at h5;exact h5.2 hn _ ((okU hk).1 _ (List.mem_map.2 ⟨x,hxe,rfl⟩))
     ·subst hji;rw [hi0] at hEj;cases hEj
     ·have h6:(f.al.any fun a=>inL g.nm a.1) = true:=List.any_eq_true.2 ⟨al,hal,zV.2 hn⟩;rw [haft hji hg (by simp only [YE,h6,Bool.or_true,Bool.true_or])] at hEj;cases hEj
   ·rcases hh.mo x hx with h3 | ⟨j,e',hEj,hej,hxe⟩
    ·rcases (hSf.2 al hal).2 x h3 with h4 | h4
     ·exact .inl (zV.2 h4)
     ·exact .inr h4
    ·right
     cases hb:x.2.has al.1 with
     | false=>rfl
     | true=>
      exfalso;obtain ⟨g,hg,hk⟩:=hok hej;have hn:=nm2 hg hk hxe hb;rcases Nat.lt_trichotomy j i with hji | hji | hji
      ·have:=(F.pair hji hg hf).1;simp only [zJa,Bool.or_eq_false_iff,List.any_eq_false] at this;have h5:=this.2 al hal;simp only [Bool.or_eq_true,zV,not_or] at h5;exact h5.1 hn
      ·subst hji;rw [hi0] at hEj;cases hEj
      ·have h6:(f.al.any fun a=>inL g.no a.1) = true:=List.any_eq_true.2 ⟨al,hal,zV.2 hn⟩;rw [haft hji hg (by simp only [YE,h6,Bool.or_true])] at hEj;cases hEj
  ·have hgt:∀ j,j ≠ i -> (listed.setIfInBounds i true).getD j false = listed.getD j false:=fun j hj=>by
    simp [Array.getD_eq_getD_getElem?,Ne.symm hj]
   have hgi:(listed.setIfInBounds i true).getD i false = true:=by simp [Array.getD,hlt]
   refine ih _ _ a' w' (by simpa using hsz) ?_ (hh.step hee hi0 hgi hgt (fun j e' hij hej hEj t ht ht2=>?_) (fun j e' hij hej hEj t ht ht2=>?_)) (fun j hj k hk=>?_) hr'
   ·have:=qp (l:=listed.toList) (i:=i) (by simp [hlt,hli]);simp only [Array.toList_setIfInBounds];omega
   ·obtain ⟨g,hg,hk⟩:=hok hej;rw [haft hij hg (by simp [YE,yu.2 ⟨t,(okU y.1).1 t ht,(okU hk).1 t ht2⟩])] at hEj;cases hEj
   ·obtain ⟨g,hg,hk⟩:=hok hej;rw [haft hij hg (by simp [YE,yu.2 ⟨t,(okU y.1).2.1 t ht,(okU hk).2.1 t ht2⟩])] at hEj;cases hEj
   ·by_cases hki:k = i
    ·subst hki;exact hgi
    ·show (listed.setIfInBounds i true).getD k false = true;rw [hgt k hki]
     by_cases hji:j = i
     ·subst hji;exact hpr k hk
     ·exact hdn j (show listed.getD j false = true by rw [<- hgt j hji];exact hj) k hk

theorem PWc.regionE {Q:PQ} {s:PState} {id:Nat} {l:List Oper} (fs:List Ft) (hm:P.follows .mixedOrders = true) (hB:drawE l.toArray fs = true) (hS:xqa s fs = true) (h:PQe P ctx l.toArray (Q .normal) l fs s):PWc P ctx (.region id l.toArray true) Q s:=by
 intro a w ⟨g,hr⟩;obtain ⟨es,t,hrun,u,hu,hsub⟩:=h.run;have F:=zKa hB;have h0:InvE s es (fun j=>decide (j < 0)) s:=InvE.zero fun j=>by simp
 obtain ⟨h1,h2⟩:=hrun.at_ (all:=es) (pre:=[]) (b:=0) (s0:=s) rfl rfl h0;refine wp_region_any hm ?_;refine y0a (es:=es) (s0:=s) (S:=t) F hS (by simpa using hrun.lens.1) (fun i o f ho hf=>?_) (by simpa using h2) (fun a w hr=>⟨u,hu,hsub a w hr⟩) _ _ s a _ (by simp) ?_ ?_ ?_ ⟨g,hr.below (Below.refl _ w).drew⟩
 ·obtain ⟨S,e,e1,e2,e3⟩:=h1 i o f (by simpa using ho) hf;exact ⟨S,e,by simpa using e1,by simpa using e2,e3⟩
 ·simp
 ·exact InvE.zero fun j=>by simp [Array.getD]
 ·intro j hj;simp [Array.getD] at hj
end
end Go.Ep

namespace Go.Ep
open Go.RowKit
section
variable {P:Program} {ctx:Ctx} {ops:Array Oper} {Q:PState -> Prop}
def dstL (d:Option Nat) (p:PV):List (Nat × PV):=match d with | some d=>[(d,p)] | none=>[]
theorem app_P (s:PState) (d:Option Nat) (p:PV):s.app ⟨dstL d p,[]⟩ = s.putD d p:=by cases d <;> rfl
theorem app_SD (s:PState) (d:Option Nat) (p:PV) (id:Nat) (ob:Ob):s.app ⟨dstL d p,[(id,ob)]⟩ = (s.setO id ob).putD d p:=by cases d <;> rfl
theorem xV (js:List Nat):∀ s:PState,(s.junks js).sl = (js.map fun t=>(t,PV.junk)).reverse ++ s.sl:=by
 induction js with
 | nil=>intro s;rfl
 | cons d r ih=>intro s;rw [PState.junks,ih];simp [PState.put]
theorem xB (js:List Nat):∀ s:PState,(s.junks js).n = s.n:=by
 induction js with
 | nil=>intro s;rfl
 | cons d r ih=>intro s;rw [PState.junks,ih];rfl
theorem app_A (s:PState) (d:Option Nat) (p:PV) (js:List Nat) (id:Nat) (ob:Ob):s.app ⟨dstL d p ++ (js.map fun t=>(t,PV.junk)).reverse,[(id,ob)]⟩ = ((s.junks js).setO id ob).putD d p:=by
 cases d with
 | none=>simp only [PState.app,dstL,PState.putD,PState.setO,xV,xB,yC,List.nil_append,List.foldr_cons,List.foldr_nil]
 | some d=>simp only [PState.app,dstL,PState.putD,PState.setO,PState.put,xV,xB,yC,List.cons_append,List.nil_append,List.foldr_cons,List.foldr_nil]

variable {s:PState} {o:Oper} {rest:List Oper} {f:Ft} {fs:List Ft}
theorem PQe.nil (h:Q s):PQe P ctx ops Q [] [] s:=.fin h (Sub.refl _)
theorem PQe.stepP {p:PV} (hl:∀ s':PState,(∀ {x q},xd o x = true -> s.ev x = some q -> s'.ev x = some q) -> (∀ {id ob},inL f.ro id = true -> look s.objs id = some ob -> look s'.objs id = some ob) -> Local P ctx o s' (s'.putD o.dst p))
  (hg:Wd ops o s) (hk:okE f ⟨dstL o.dst p,[]⟩ = true) (h:PQe P ctx ops Q rest fs (s.putD o.dst p)):PQe P ctx ops Q (o :: rest) (f :: fs) s:=
 .step (e:=⟨dstL o.dst p,[]⟩) (fun s' _ he ho _ _=>by rw [app_P];exact hl s' he fun hi=>ho (zV.1 hi)) hg hk (by rw [app_P];exact h)
theorem PQe.stepN {p:PV} {id:Nat} {ob:Ob} (hl:∀ s':PState,(∀ {x q},xd o x = true -> s.ev x = some q -> s'.ev x = some q) -> (∀ {id ob},inL f.ro id = true -> look s.objs id = some ob -> look s'.objs id = some ob) -> s'.fresh id = true -> Local P ctx o s' (s'.newO id ob p))
  (hfr:inL f.fr id = true) (hg:Wd ops o s) (hk:okE f ⟨[(id,p)],[(id,ob)]⟩ = true) (h:PQe P ctx ops Q rest fs (s.newO id ob p)):PQe P ctx ops Q (o :: rest) (f :: fs) s:=
 .step (e:=⟨[(id,p)],[(id,ob)]⟩) (fun s' _ he ho hf _=>hl s' he (fun hi=>ho (zV.1 hi)) (hf id (zV.1 hfr))) hg hk h
theorem PQe.stepS {id:Nat} {ob:Ob} (hl:∀ s':PState,(∀ {x q},xd o x = true -> s.ev x = some q -> s'.ev x = some q) -> (∀ {id ob},inL f.ro id = true -> look s.objs id = some ob -> look s'.objs id = some ob) -> Local P ctx o s' (s'.setO id ob))
  (hg:Wd ops o s) (hk:okE f ⟨[],[(id,ob)]⟩ = true) (h:PQe P ctx ops Q rest fs (s.setO id ob)):PQe P ctx ops Q (o :: rest) (f :: fs) s:=
 .step (e:=⟨[],[(id,ob)]⟩) (fun s' _ he ho _ _=>hl s' he fun hi=>ho (zV.1 hi)) hg hk h
theorem PQe.stepSD {p:PV} {id:Nat} {ob:Ob} (hl:∀ s':PState,(∀ {x q},xd o x = true -> s.ev x = some q -> s'.ev x = some q) -> (∀ {id ob},inL f.ro id = true -> look s.objs id = some ob -> look s'.objs id = some ob) -> Local P ctx o s' ((s'.setO id ob).putD o.dst p))
  (hg:Wd ops o s) (hk:okE f ⟨dstL o.dst p,[(id,ob)]⟩ = true) (h:PQe P ctx ops Q rest fs ((s.setO id ob).putD o.dst p)):PQe P ctx ops Q (o :: rest) (f :: fs) s:=
 .step (e:=⟨dstL o.dst p,[(id,ob)]⟩) (fun s' _ he ho _ _=>by rw [app_SD];exact hl s' he fun hi=>ho (zV.1 hi)) hg hk (by rw [app_SD];exact h)
def inAl (l:List (Nat × List Nat)) (id:Nat) (js:List Nat):Bool:=l.any fun a=>Nat.beq a.1 id && a.2 == js
def inAo (f:Ft) (id:Nat) (js:List Nat):Bool:=f.ao.isEmpty && inAl f.al id js
theorem PQe.stepA {p:PV} {id:Nat} {ob:Ob} (js:List Nat) (hl:∀ s':PState,(∀ {x q},xd o x = true -> s.ev x = some q -> s'.ev x = some q) -> (∀ {id ob},inL f.ro id = true -> look s.objs id = some ob -> look s'.objs id = some ob) -> (s'.junks js).alone id = true -> Local P ctx o s' (((s'.junks js).setO id ob).putD o.dst p))
  (ha:inAo f id js = true) (hg:Wd ops o s) (hk:okE f ⟨dstL o.dst p ++ (js.map fun t=>(t,PV.junk)).reverse,[(id,ob)]⟩ = true) (h:PQe P ctx ops Q rest fs (((s.junks js).setO id ob).putD o.dst p)):PQe P ctx ops Q (o :: rest) (f :: fs) s:=
 .step (e:=⟨dstL o.dst p ++ (js.map fun t=>(t,PV.junk)).reverse,[(id,ob)]⟩) (fun s' _ he ho _ hal=>by
  rw [app_A];refine hl s' he (fun hi=>ho (zV.1 hi)) ?_;unfold inAo at ha;rw [Bool.and_eq_true] at ha;obtain ⟨h0,ha⟩:=ha;unfold inAl at ha;obtain ⟨a,h1,h2⟩:=List.any_eq_true.1 ha;simp only [Bool.and_eq_true,beq_iff_eq] at h2;have:=hal a h1;rw [Nat.eq_of_beq_eq_true h2.1,h2.2,List.isEmpty_iff.1 h0] at this;exact yza this) hg hk (by rw [app_A];exact h)
theorem PQe.skipP (hg:Sk ops o s) (hk:okE f (undE o) = true) (h:PQe P ctx ops Q rest fs (s.putD o.dst .und)):PQe P ctx ops Q (o :: rest) (f :: fs) s:=
 .skip hg hk (by have:s.app (undE o) = s.putD o.dst .und:=app_P s o.dst .und;rw [this];exact h)

theorem Same.app {s t:PState} (h:Same s t) (e:Ef):Same (s.app e) (t.app e):=by
 refine ⟨h.1,fun i=>?_,?_⟩
 ·have h2:=h.2.1 i;rw [YH,YH] at h2 ⊢;show (if i < s.n then getS (e.U ++ s.sl) i else none) = if i < t.n then getS (e.U ++ t.sl) i else none
  rw [Wi,Wi];rw [h.1] at h2 ⊢
  by_cases hi:i < t.n
  ·simp only [hi,if_true] at h2 ⊢;rw [h2]
  ·simp only [hi,if_false]
 ·show e.V.foldr _ s.objs = e.V.foldr _ t.objs;rw [h.2.2]
theorem PQe.same {l:List Oper} {fs:List Ft} {t:PState} (h:PQe P ctx ops Q l fs t):∀ {s:PState},Same s t -> PQe P ctx ops Q l fs s:=by
 induction h with
 | fin h hs=>intro s he;exact .fin h (Sub.trans he.sub hs)
 | step hl hg hk _ ih=>
  intro s he;refine .step (fun s' hn h1 h2 h3 h4=>hl s' (hn.trans he.1) (fun hx hq=>h1 hx (by rw [he.ev];exact hq)) (fun hi ho=>h2 hi (by rw [he.2.2];exact ho)) h3 h4) ?_ hk (ih (he.app _));rcases hg with hg | ⟨j,b,d,h5,h6,h7⟩
  ·exact .inl hg
  ·exact .inr ⟨j,b,d,h5,h6,by rw [he.2.1];exact h7⟩
 | skip hg hk _ ih=>
  intro s he;refine .skip ?_ hk (ih (he.app _));rcases hg with ⟨j,b,c,d,h5,h6,h7,h8⟩ | ⟨j,b,d,h5,h6,h7⟩
  ·exact .inl ⟨j,b,c,d,h5,h6,by rw [he.2.1];exact h7,h8⟩
  ·exact .inr ⟨j,b,d,h5,h6,by rw [he.2.1];exact h7⟩
theorem PQe.split {d:Nat} {b:Bool} (hs:s.at d = some (.d (.v (.bool b)))) (ht:b = true -> PQe P ctx ops Q rest fs (s.put d (.d (.v (.bool true))))) (hf:b = false -> PQe P ctx ops Q rest fs (s.put d (.d (.v (.bool false))))):PQe P ctx ops Q rest fs s:=by
 have e:Same s (s.put d (.d (.v (.bool b)))):=by
  refine ⟨rfl,fun i=>?_,rfl⟩;rw [WI]
  by_cases hi:i < s.n
  ·rw [if_pos hi]
   by_cases hd:d = i
   ·subst hd;rw [if_pos rfl];exact hs
   ·rw [if_neg hd]
  ·rw [if_neg hi,YH,if_neg hi]
 cases b with
 | true=>exact (ht rfl).same e
 | false=>exact (hf rfl).same e
end
end Go.Ep
namespace Go.Ep
section
variable {P:Program} {ctx:Ctx} {ops:Array Oper} {Q:PState -> Prop} {s:PState} {o:Oper} {rest:List Oper} {f:Ft} {fs:List Ft}
theorem kp {p:PV} (hl:∀ s':PState,(∀ {x q},xd o x = true -> s.ev x = some q -> s'.ev x = some q) -> (∀ {id ob},inL f.ro id = true -> look s.objs id = some ob -> look s'.objs id = some ob) -> Local P ctx o s' (s'.putD o.dst p)) (h:PQe P ctx ops Q rest fs (s.putD o.dst p)) (hg:Wd ops o s:=by exact .inl rfl) (hk:okE f ⟨dstL o.dst p,[]⟩ = true:=by exact rfl):PQe P ctx ops Q (o :: rest) (f :: fs) s:=PQe.stepP hl hg hk h
theorem km {dst:Option Tmp} {ty:TypeId} {pos:String} {after:Array Edge} {gd:Option (Nat × Bool)} {x:Operand} {p:PV} (h:PQe P ctx ops Q rest fs (s.putD dst p)) (hx:s.ev x = some p:=by exact rfl) (hg:Wd ops ⟨dst,.move x,ty,pos,after,gd⟩ s:=by exact .inl rfl) (hk:okE f ⟨dstL dst p,[]⟩ = true:=by exact rfl):PQe P ctx ops Q (⟨dst,.move x,ty,pos,after,gd⟩ :: rest) (f :: fs) s:=PQe.stepP (fun _ he _=>LR.move (he rdM hx)) hg hk h
theorem ks {id:Nat} {ob:Ob} (hl:∀ s':PState,(∀ {x q},xd o x = true -> s.ev x = some q -> s'.ev x = some q) -> (∀ {id ob},inL f.ro id = true -> look s.objs id = some ob -> look s'.objs id = some ob) -> Local P ctx o s' (s'.setO id ob)) (h:PQe P ctx ops Q rest fs (s.setO id ob)) (hg:Wd ops o s:=by exact .inl rfl) (hk:okE f ⟨[],[(id,ob)]⟩ = true:=by exact rfl):PQe P ctx ops Q (o :: rest) (f :: fs) s:=PQe.stepS hl hg hk h
theorem kx (h:PQe P ctx ops Q rest fs (s.putD o.dst .und)) (hg:Sk ops o s:=by exact .inl ⟨_,_,_,_,rfl,rfl,rfl,by decide⟩) (hk:okE f (undE o) = true:=by exact rfl):PQe P ctx ops Q (o :: rest) (f :: fs) s:=PQe.skipP hg hk h
end
end Go.Ep
namespace Go.Ep
open Go.RowKit
def uF (m:List (List Int × Value)):Mp:=m.map fun x=>(x.1,[])
theorem QE {m:List (List Int × Value)} {i:Nat} {ns:List Int} {c:List DV} (h:(uF m)[i]? = some (ns,c)):∃ p,m[i]? = some (ns,p):=by
 unfold uF at h;rw [List.getElem?_map] at h
 cases hm:m[i]? with
 | none=>rw [hm] at h;cases h
 | some x=>rw [hm] at h;simp only [Option.map_some,Option.some.injEq,Prod.mk.injEq] at h;exact ⟨x.2,by rw [<- h.1]⟩

section
variable {P:Program} {ctx:Ctx} {Q:PQ} {s:PState}
variable {dst:Option Tmp} {ty:TypeId} {pos:String} {after:Array Edge} {gd:Option (Nat × Bool)}

theorem RelG.reread {g:zX} {a:Act} {w:World} (h1:RelG ctx g s a w) {id:Nat} {o0 ob:Ob} (hl:look s.objs id = some o0) {objs':List (Nat × Ob)} (ho':∀ i,look objs' i = if i = id then some ob else look s.objs i)
  (hr:∀ S,ObRd w g S id o0 -> ObRd w g S id ob):RelG ctx g { s with objs:=objs' } a w:=by
 have hF:∀ b,Free ctx g s.objs b -> Free ctx g objs' b:=fun b hb=>⟨hb.1,fun i o n ho hgi=>by
  rw [ho'] at ho
  by_cases ei:i = id
  ·subst ei;exact hb.2 i _ n hl hgi
  ·rw [if_neg ei] at ho;exact hb.2 i o n ho hgi⟩
 have hst:yO w w (Free ctx g s.objs):=⟨Nat.le_refl _,fun _ _ _=>rfl⟩
 refine ⟨h1.defers,h1.size,fun i p hp=>(h1.slots i p hp).keep hst (fun b hb _=>hF b hb) (fun _ _=>rfl),fun i o ho=>?_,fun i i2 o o2 b n m ho ho2 hgi hgi2=>?_,fun i o b n ho hgi=>?_,h1.os,h1.tape,h1.output,h1.grows,h1.keep⟩
 ·simp only [ho'] at ho
  by_cases ei:i = id
  ·subst ei;rw [if_pos rfl] at ho
   cases ho
   exact hr _ ((h1.objs i _ hl).keep hst (fun b hb _=>hF b hb) (fun _ _ _=>rfl) rfl (fun _ _=>rfl))
  ·rw [if_neg ei] at ho;exact (h1.objs i o ho).keep hst (fun b hb _=>hF b hb) (fun _ _ _=>rfl) rfl (fun _ _=>rfl)
 ·simp only [ho'] at ho ho2;have key:∀ q o,(if q = id then some ob else look s.objs q) = some o -> ∃ o',look s.objs q = some o':=fun q o hq=>by
   by_cases eq:q = id
   ·subst eq;exact ⟨_,hl⟩
   ·rw [if_neg eq] at hq;exact ⟨o,hq⟩
  obtain ⟨p1,q1⟩:=key i o ho;obtain ⟨p2,q2⟩:=key i2 o2 ho2;exact h1.inj i i2 p1 p2 b n m q1 q2 hgi hgi2
 ·simp only [ho'] at ho
  by_cases ei:i = id
  ·subst ei;exact h1.own i _ b n hl hgi
  ·rw [if_neg ei] at ho;exact h1.own i o b n ho hgi
theorem Xt (id:Nat) (ob:Ob) (l:List (Nat × Ob)) (i:Nat):look (putO id ob (delO id l)) i = if i = id then some ob else look l i:=by
 rw [zC,zn]
 by_cases h:i = id <;> simp [h]
theorem UG {id:Nat}:∀ {l:List (Nat × Ob)} {x:Nat × Ob},x ∈ delO id l -> x.1 ≠ id /\ x ∈ l
 | [],x,h=>by simp [delO] at h
 | (k,p) :: r,x,h=>by
  unfold delO at h
  by_cases e:id = k
  ·rw [if_pos e] at h;have:=UG h;exact ⟨this.1,List.mem_cons_of_mem _ this.2⟩
  ·rw [if_neg e] at h;rcases List.mem_cons.1 h with h | h
   ·subst h;exact ⟨Ne.symm e,List.mem_cons_self⟩
   ·have:=UG h;exact ⟨this.1,List.mem_cons_of_mem _ this.2⟩
theorem ObRd.junkP {w:World} {g:zX} {S:Nat -> Prop} {id:Nat} {ks:List IntKind} {m:List (List Int × Value)} {j:Nat} {p:PV} {bs:List Nat} {ck:Nat} (h:ObRd w g S id (.mapP ks m (some (j,p)) bs ck)):ObRd w g S id (.mapP ks m (some (j,.junk)) bs ck):=by
 cases h with
 | mapP _ _ _ _ _ blk n es h hh hsz hst hbl hnd hent hov=>
  refine .mapP ks m _ bs ck blk n es h hh hsz hst hbl hnd (fun i ns u hi=>?_) fun j' p' hj=>?_
  ·obtain ⟨e,h1,h2,h3,h4,h5⟩:=hent i ns u hi;refine ⟨e,h1,h2,h3,h4,fun hne=>h5 fun q hq=>?_⟩
   cases hq
   exact hne .junk rfl
  ·cases hj
   obtain ⟨e,h1,h2⟩:=hov j p rfl;exact ⟨e,h1,.junk _⟩
section
variable {x kx:Operand} {t kt et:TypeId} {ks:List IntKind} {m:List (List Int × Value)} {ns:List Int} {bs:List Nat} {ck id:Nat} {ov:Option (Nat × PV)}
theorem Wm {es:Array MapEntry}
  (hent:∀ (i:Nat) (ns:List Int) (u:Value),m[i]? = some (ns,u) -> ∃ e,es[i]? = some e /\ e.key = keyV ks ns /\ ns.length = ks.length /\ e.val.oneCell' = true /\ ((∀ p,ov ≠ some (i,p)) -> e.val = u)) :
  ∀ (i:Nat) (e:MapEntry) (nn:List Int) (c:List DV),es.toList[i]? = some e -> (uF m)[i]? = some (nn,c) -> e.key = keyV ks nn /\ nn.length = ks.length:=fun i e nn c h1 h2=>by
 obtain ⟨q,hq⟩:=QE h2;obtain ⟨e',g1,g2,g3,_⟩:=hent i nn q hq;have:e' = e:=by simp at h1;rw [g1] at h1;cases h1;rfl
 subst this;exact ⟨g2,g3⟩
variable (hu:P.underlying t = some (.map kt et)) (K:KeyOK P kt ks) (hx:s.ev x = some (.mp id)) (hl:look s.objs id = some (.mapP ks m ov bs ck)) (hk:s.ev kx = some (keyP ks ns)) (hn:ns.length = ks.length)
include hu K hx hl hk hn
theorem LR.lookupP {j:Nat} {p:PV} (hj:yc ns (uF m) 0 = some j) (hp:ov = some (j,p)):Local P ctx ⟨dst,.lookup t x kx false,ty,pos,after,gd⟩ s (s.putD dst p):=
 zE (o:=⟨dst,.lookup t x kx false,ty,pos,after,gd⟩) fun a w g hg=>by
  have h:=hg.ev hx
  generalize hv:a.eval x = v at h
  cases h with
  | mpNil _ hgn=>
   cases hg.objs id _ hl with
   | mapP _ _ _ _ _ blk' n' es h' hh hsz hst hbl hnd hent hov=>rw [hgn] at h';cases h'
  | mp _ blk n hgi=>
   cases hg.objs id _ hl with
   | mapP _ _ _ _ _ blk' n' es h' hh hsz hst hbl hnd hent hov=>
    rw [hgi] at h';cases h';have hf:=K.find w ns (uF m) es.toList hn (by simpa [uF] using hsz) (Wm hent);obtain ⟨e,g1,g5⟩:=hov j p hp;have he:es.toList[j]? = some e:=by simpa using g1
    rw [hj] at hf;simp only [Option.bind_some,he,Option.map_some] at hf;refine ⟨e.val,?_,g5⟩;simp only [execOp,hv,YJ (hg.ev hk),Instr.lookup,Sem.run_bind,run_underlying hu,Result.andThen_ok,MapKept.run_getObj_map hh,Sem.run_pure,K.check w _ ns hn,hf]
    rfl
theorem LR.lookupPN {z:Value} (hz:∀ w,(zeroValue et).run P w = .ok z w) (h1:z.oneCell' = true) (hj:yc ns (uF m) 0 = none):Local P ctx ⟨dst,.lookup t x kx false,ty,pos,after,gd⟩ s (s.putD dst (.d (.v z))):=
 zE (o:=⟨dst,.lookup t x kx false,ty,pos,after,gd⟩) fun a w g hg=>by
  have h:=hg.ev hx
  generalize hv:a.eval x = v at h
  cases h with
  | mpNil _ hgn=>
   cases hg.objs id _ hl with
   | mapP _ _ _ _ _ blk' n' es h' hh hsz hst hbl hnd hent hov=>rw [hgn] at h';cases h'
  | mp _ blk n hgi=>
   cases hg.objs id _ hl with
   | mapP _ _ _ _ _ blk' n' es h' hh hsz hst hbl hnd hent hov=>
    rw [hgi] at h';cases h';have hf:=K.find w ns (uF m) es.toList hn (by simpa [uF] using hsz) (Wm hent);rw [hj] at hf;simp only [Option.bind_none] at hf;refine ⟨z,?_,.d (.v z h1)⟩;simp only [execOp,hv,YJ (hg.ev hk),Instr.lookup,Sem.run_bind,run_underlying hu,Result.andThen_ok,MapKept.run_getObj_map hh,Sem.run_pure,K.check w _ ns hn,hf,hz]
    rfl
omit hu K hx hl hk hn in
theorem xua {w:World} {g:zX} {S:Nat -> Prop} {q n:Nat} {u:Value} (h:Rd w g S (.row q n) u):u.oneCell' = true:=by cases h <;> rfl
theorem LR.mapUpdateP {vx:Operand} {j q nn:Nat} {p:PV} (hov:ov = some (j,p)) (hv:s.ev vx = some (.row q nn)) (hj:yc ns (uF m) 0 = some j):Local P ctx ⟨none,.mapUpdate t x kx vx,ty,pos,after,gd⟩ s (s.setO id (.mapP ks m (some (j,.row q nn)) bs ck)):=by
 subst hov;refine Yc (o:=⟨none,.mapUpdate t x kx vx,ty,pos,after,gd⟩) fun a w g hg=>?_
 have h:=hg.ev hx
 generalize hxv:a.eval x = v at h
 cases h with
 | mpNil _ hgn=>
  cases hg.objs id _ hl with
  | mapP _ _ _ _ _ blk' n' es h' hh hsz hst hbl hnd hent hov=>rw [hgn] at h';cases h'
 | mp _ blk n hgi=>
  cases hg.objs id _ hl with
  | mapP _ _ _ _ _ blk' n' es h' hh hsz hst hbl hnd hent hov=>
   rw [hgi] at h';cases h';have hf:=K.find w ns (uF m) es.toList hn (by simpa [uF] using hsz) (Wm hent);obtain ⟨k,hjk,cs0,h2,h3⟩:=YI ns (uF m) 0 j hj;have:j = k:=by omega
   subst this;obtain ⟨p0,hp0⟩:=QE h2;obtain ⟨e0,g1,g2,g3,g4,g5⟩:=hent j ns p0 hp0;have he:es.toList[j]? = some e0:=by simpa using g1
   rw [hj] at hf;simp only [Option.bind_some,he,Option.map_some] at hf;have hvr:=hg.ev hv
   generalize hu':a.eval vx = u at hvr
   have hsame:(Instr.keyThatStays (((es[j]?).map (·.key)).getD (keyV ks ns)) (keyV ks ns)).run P w = .ok (keyV ks ns) w:=by
    simp only [g1,Option.map_some,Option.getD_some,g2,Instr.keyThatStays,Vd,if_true,Sem.run_pure]
   have hrun:(Instr.mapUpdate t (.map (some blk)) (keyV ks ns) u).run P w = .ok () { w with heap:=w.heap.setIfInBounds blk (.map (es.modify j fun e=>{ e with key:=keyV ks ns,val:=u }) ck) }:=by
    simp only [Instr.mapUpdate,Sem.run_bind,run_underlying hu,Result.andThen_ok,MapKept.run_getObj_map hh,K.check w _ ns hn,hf,hsame];exact MapKept.run_setObj_map _ hh
   refine ⟨_,by simp only [execOp,hxv,YJ (hg.ev hk),hu',Sem.run_bind,hrun,Result.andThen_ok,Sem.run_pure];rfl,g,?_⟩;have hown:=hg.own id _ blk n hl hgi;have hother:∀ k,k < w.heap.size -> k ≠ blk -> ({ w with heap:=w.heap.setIfInBounds blk (.map (es.modify j fun e=>{ e with key:=keyV ks ns,val:=u }) ck) }:World).heap[k]? = w.heap[k]?:=fun k _ hne=>uv w blk k _ hne
   have hst':yO w { w with heap:=w.heap.setIfInBounds blk (.map (es.modify j fun e=>{ e with key:=keyV ks ns,val:=u }) ck) } (Free ctx g s.objs):=⟨by simp,fun b ⟨_,h2⟩ hlt=>hother b hlt fun e=>by subst e;exact h2 id _ n hl hgi⟩
   refine hg.wrote hl hgi rfl rfl rfl (by simp) hother hown.2 (.mapP ks _ _ bs ck blk n (es.modify j fun e=>{ e with key:=keyV ks ns,val:=u }) hgi (Yf w blk _ hown.1) (by simp [hsz]) ?_ hbl hnd (fun i nn' u' hi=>?_) fun j' p' hj'=>?_)
   ·rw [hst];apply List.ext_getElem?;intro i;simp only [List.getElem?_map,Array.getElem?_toList,Array.getElem?_modify]
    by_cases hij:j = i
    ·subst hij;simp [g1]
    ·simp [hij]
   ·by_cases hij:i = j
    ·subst hij;rw [hp0] at hi
     cases hi
     exact ⟨_,by rw [Array.getElem?_modify,if_pos rfl,g1];rfl,rfl,hn,xua hvr,fun hne=>(hne _ rfl).elim⟩
    ·obtain ⟨e,q1,q2,q3,q4,q5⟩:=hent i nn' u' hi;exact ⟨e,by rw [Array.getElem?_modify,if_neg (Ne.symm hij)];exact q1,q2,q3,q4,fun _=>q5 fun p hp=>by cases hp;exact hij rfl⟩
   ·cases hj'
    exact ⟨_,by rw [Array.getElem?_modify,if_pos rfl,g1];rfl,hvr.keep hst' (fun b hb _=>xG hl b hb) (fun _ _=>rfl)⟩
theorem LR.mapUpdatePN {vx:Operand} {q nn:Nat} (hov:ov = none) (hv:s.ev vx = some (.row q nn)) (hj:yc ns (uF m) 0 = none):Local P ctx ⟨none,.mapUpdate t x kx vx,ty,pos,after,gd⟩ s (s.setO id (.mapP ks (m ++ [(ns,undef)]) (some (m.length,.row q nn)) (bs ++ [ck]) (ck + 1))):=by
 subst hov;refine Yc (o:=⟨none,.mapUpdate t x kx vx,ty,pos,after,gd⟩) fun a w g hg=>?_
 have h:=hg.ev hx
 generalize hxv:a.eval x = v at h
 cases h with
 | mpNil _ hgn=>
  cases hg.objs id _ hl with
  | mapP _ _ _ _ _ blk' n' es h' hh hsz hst hbl hnd hent hov=>rw [hgn] at h';cases h'
 | mp _ blk n hgi=>
  cases hg.objs id _ hl with
  | mapP _ _ _ _ _ blk' n' es h' hh hsz hst hbl hnd hent hov=>
   rw [hgi] at h';cases h';have hf:=K.find w ns (uF m) es.toList hn (by simpa [uF] using hsz) (Wm hent);rw [hj] at hf;simp only [Option.bind_none] at hf;have hvr:=hg.ev hv
   generalize hu':a.eval vx = u at hvr
   have hrun:(Instr.mapUpdate t (.map (some blk)) (keyV ks ns) u).run P w = .ok () { w with heap:=w.heap.setIfInBounds blk (.map (es.push { key:=keyV ks ns,val:=u,born:=ck }) (ck + 1)) }:=by
    simp only [Instr.mapUpdate,Sem.run_bind,run_underlying hu,Result.andThen_ok,MapKept.run_getObj_map hh,K.check w _ ns hn,hf];exact MapKept.run_setObj_map _ hh
   refine ⟨_,by simp only [execOp,hxv,YJ (hg.ev hk),hu',Sem.run_bind,hrun,Result.andThen_ok,Sem.run_pure];rfl,g,?_⟩;have hown:=hg.own id _ blk n hl hgi;have hother:∀ k,k < w.heap.size -> k ≠ blk -> ({ w with heap:=w.heap.setIfInBounds blk (.map (es.push { key:=keyV ks ns,val:=u,born:=ck }) (ck + 1)) }:World).heap[k]? = w.heap[k]?:=fun k _ hne=>uv w blk k _ hne
   have hst':yO w { w with heap:=w.heap.setIfInBounds blk (.map (es.push { key:=keyV ks ns,val:=u,born:=ck }) (ck + 1)) } (Free ctx g s.objs):=⟨by simp,fun b ⟨_,h2⟩ hlt=>hother b hlt fun e=>by subst e;exact h2 id _ n hl hgi⟩
   refine hg.wrote hl hgi rfl rfl rfl (by simp) hother hown.2 (.mapP ks _ _ (bs ++ [ck]) (ck + 1) blk n (es.push { key:=keyV ks ns,val:=u,born:=ck }) hgi (Yf w blk _ hown.1) (by simp [hsz]) (by simp [hst]) ?_ ?_ (fun i nn' u' hi=>?_) fun j' p' hj'=>?_)
   ·intro b hb;rcases List.mem_append.1 hb with h | h
    ·have:=hbl b h;omega
    ·simp at h;omega
   ·rw [List.nodup_append];refine ⟨hnd,by simp,fun b hb c hc=>?_⟩;simp at hc;have:=hbl b hb;omega
   ·rw [List.getElem?_append] at hi
    split at hi
    ·rename_i hlt
     obtain ⟨e,q1,q2,q3,q4,q5⟩:=hent i nn' u' hi;exact ⟨e,by rw [Array.getElem?_push,if_neg (by rw [hsz];omega)];exact q1,q2,q3,q4,fun _=>q5 fun p hp=>by cases hp⟩
    ·rename_i hge
     have hi0:i = m.length:=by
      have:i - m.length < 1:=by simpa using (List.getElem?_eq_some_iff.1 hi).1
      omega
     subst hi0;simp at hi;obtain ⟨rfl,rfl⟩:=hi;exact ⟨_,by rw [Array.getElem?_push,if_pos hsz.symm],rfl,hn,xua hvr,fun hne=>(hne _ rfl).elim⟩
   ·cases hj'
    exact ⟨_,by rw [Array.getElem?_push,if_pos hsz.symm],hvr.keep hst' (fun b hb _=>xG hl b hb) (fun _ _=>rfl)⟩
end
end

section
variable {P:Program} {ctx:Ctx} {ops:Array Oper} {Q:PState -> Prop} {s:PState}
variable {dst:Option Tmp} {ty:TypeId} {pos:String} {after:Array Edge} {gd:Option (Nat × Bool)}
theorem Local.post {o:Oper} {t u:PState} (h:Local P ctx o s t) (hs:Sub ctx t u):Local P ctx o s u:=fun a w hr K Qx hK=>h a w hr K Qx fun a' w' h'=>hK a' w' (hs a' w' h')
theorem Local.pre {o:Oper} {t u:PState} (hs:Sub ctx s t) (h:Local P ctx o t u):Local P ctx o s u:=fun a w hr K Qx hK=>h a w (hs a w hr) K Qx hK
section
variable {α:Type} {enc:α -> List DV} {L R:List α} {x y:Operand} {id mid m k bs':Nat} {t t' e e':TypeId} {ks:List IntKind} {mm:List (List Int × Value)} {j:Nat} {p:PV} {bs:List Nat} {ck:Nat}
theorem LR.appP (js:List Nat) (hE:ElemOK P t e k bs') (hu':P.underlying t' = some (.slice e')) (hx:s.ev x = some (.row id m)) (hm:m = L.length) (hl:look s.objs id = some (.row e k (L.map enc)))
  (hlm:look s.objs mid = some (.mapP ks mm (some (j,p)) bs ck)) (hne:Nat.beq id mid = false)
  (hy:∀ s':PState,s'.n = s.n -> s'.sl = s.sl -> Src ctx s' y (R.map enc) k) (hk:∀ x,(enc x).length = k) (hb:(L.length + R.length) * bs' <= 140737488355328) (h1:Nat.ble 1 bs' = true) (ha:(s.junks js).aloneX id [mid] = true) :
  Local P ctx ⟨dst,.call ⟨.builtin .append,#[x,y],#[t,t']⟩,ty,pos,after,gd⟩ s ((((s.junks js).setO mid (.mapP ks mm (some (j,.junk)) bs ck)).setO id (.row e k ((L ++ R).map enc))).putD dst (.row id (L ++ R).length)):=by
 have hne':id ≠ mid:=fun e=>by rw [e] at hne;simp at hne
 let s2:PState:={ s with objs:=putO mid (.mapP ks mm (some (j,.junk)) bs ck) (delO mid s.objs) }
 have hsub:Sub ctx s s2:=fun a w ⟨g,hg⟩=>⟨g,hg.reread hlm (Xt _ _ _) fun S h=>h.junkP⟩
 have hj2:∀ js,(s2.junks js).sl = (s.junks js).sl:=fun js=>by rw [xV,xV]
 have ha2:(s2.junks js).alone id = true:=by
  unfold PState.aloneX at ha;unfold PState.alone;rw [hj2 js];rw [Bool.and_eq_true] at ha ⊢;refine ⟨ha.1,List.all_eq_true.2 fun q hq=>?_⟩;rw [yC] at hq;have h2:=List.all_eq_true.1 ha.2;obtain ⟨qk,qo⟩:=q;rcases UF hq with h3 | h3
  ·cases h3;rfl
  ·have h4:=UG h3;have h5:=h2 (qk,qo) (by rw [yC];exact h4.2);have h6:inL [mid] qk = false:=by
    rw [Wl];simpa using h4.1
   simpa [h6] using h5
 have hl2:look s2.objs id = some (.row e k (L.map enc)):=by
  show look (putO _ _ _) _ = _;rw [Xt,if_neg hne'];exact hl
 refine Local.pre hsub ((LR.appT (enc:=enc) (L:=L) (R:=R) (s:=s2) js hE hu' (by cases x <;> exact hx) hm hl2 (hy s2 rfl rfl) hk hb h1 ha2).post ?_);refine Sub.drop ?_ (fun i q hq=>?_) (fun i o ho=>?_)
 ·simp only [uY];show (s2.junks js).n = (s.junks js).n;rw [xB,xB]
 ·have hsl:(((s2.junks js).setO id (.row e k ((L ++ R).map enc))).putD dst (.row id (L ++ R).length)).sl = ((((s.junks js).setO mid (.mapP ks mm (some (j,.junk)) bs ck)).setO id (.row e k ((L ++ R).map enc))).putD dst (.row id (L ++ R).length)).sl:=by
   cases dst <;> simp [PState.putD,PState.put,PState.setO,hj2]
  have hn:(((s2.junks js).setO id (.row e k ((L ++ R).map enc))).putD dst (.row id (L ++ R).length)).n = ((((s.junks js).setO mid (.mapP ks mm (some (j,.junk)) bs ck)).setO id (.row e k ((L ++ R).map enc))).putD dst (.row id (L ++ R).length)).n:=by
   simp only [uY];show (s2.junks js).n = (s.junks js).n;rw [xB,xB]
  rw [YH] at hq ⊢;rw [hsl,hn];exact hq
 ·rw [yL] at ho ⊢;simp only [PState.setO,yC] at ho ⊢;rw [zC] at ho ⊢
  by_cases hi:i = id
  ·rw [if_pos hi] at ho ⊢;exact ho
  ·rw [if_neg hi] at ho ⊢;rw [zC] at ho;show look (putO _ _ (delO _ _)) _ = _;rw [Xt];exact ho
theorem PQe.stepX {o:Oper} {rest:List Oper} {f:Ft} {fs:List Ft} {p:PV} {id mid:Nat} {ob obm:Ob} (js:List Nat) (hl:∀ s':PState,(∀ {x q},xd o x = true -> s.ev x = some q -> s'.ev x = some q) -> (∀ {id ob},inL f.ro id = true -> look s.objs id = some ob -> look s'.objs id = some ob) -> (s'.junks js).aloneX id [mid] = true -> Local P ctx o s' ((((s'.junks js).setO mid obm).setO id ob).putD o.dst p))
  (ha:inAl f.al id js = true) (hao:f.ao = [mid]) (hg:Wd ops o s) (hk:okE f ⟨dstL o.dst p ++ (js.map fun t=>(t,PV.junk)).reverse,[(id,ob),(mid,obm)]⟩ = true) (h:PQe P ctx ops Q rest fs ((((s.junks js).setO mid obm).setO id ob).putD o.dst p)):PQe P ctx ops Q (o :: rest) (f :: fs) s:=by
 have happ:∀ s:PState,s.app ⟨dstL o.dst p ++ (js.map fun t=>(t,PV.junk)).reverse,[(id,ob),(mid,obm)]⟩ = (((s.junks js).setO mid obm).setO id ob).putD o.dst p:=fun s=>by
  have h1:=xV js s;have h2:=xB js s;have h3:=yC js s
  cases o.dst <;> simp [PState.app,dstL,PState.putD,PState.put,PState.setO,h1,h2,h3]
 refine .step (e:=⟨dstL o.dst p ++ (js.map fun t=>(t,PV.junk)).reverse,[(id,ob),(mid,obm)]⟩) (fun s' _ he ho _ hal=>?_) hg hk (by rw [happ];exact h);rw [happ];refine hl s' he (fun hi=>ho (zV.1 hi)) ?_;unfold inAl at ha;obtain ⟨a,h1,h2⟩:=List.any_eq_true.1 ha;simp only [Bool.and_eq_true,beq_iff_eq] at h2;have:=hal a h1
 rwa [Nat.eq_of_beq_eq_true h2.1,h2.2,hao] at this
theorem LR.appNilX (hE:ElemOK P t e k bs') (hu':P.underlying t' = some (.slice e')) (hx:s.ev x = some (.d (.v (.slice none 0 0)))) (hf:s.fresh id = true)
  (hy:Src ctx { s with objs:=putO id (.row e k []) s.objs } y (R.map enc) k) (hk:∀ x,(enc x).length = k) (hb:R.length * bs' <= 140737488355328) (h1:Nat.ble 1 bs' = true) (ha:({ s with objs:=putO id (.row e k []) s.objs }:PState).alone id = true) :
  Local P ctx ⟨some id,.call ⟨.builtin .append,#[x,y],#[t,t']⟩,ty,pos,after,gd⟩ s (s.newO id (.row e k (R.map enc)) (.row id R.length)):=by
 rintro a w ⟨g,hg⟩ K Qx hK;have hn:=hg.new (Go.RowKit.Below.refl _ w) hf none (fun b n e=>by cases e) (.row e k []) (.rowNil e k (zI _ _ _));have h2:=Nat.le_of_ble_eq_true h1;have h3:R.length * 1 <= R.length * bs':=Nat.mul_le_mul_left _ h2;have hlk:look (putO id (Ob.row e k []) s.objs) id = some (.row e k []):=by rw [zC,if_pos rfl]
 have hxv:=hg.ev hx;have hxe:a.eval x = .slice none 0 0:=hxv.of_v;obtain ⟨v,w',hrun,hr⟩:=UT (dst:=some id) (ty:=ty) (pos:=pos) (after:=after) (gd:=gd) (l:=[]) (n:=0) (x:=x) [] hE hu' hlk rfl hy (JR hk R) (by simpa using hb) (by simp;omega) ha hn (by rw [hxe];exact .rowNil id (zI _ _ _));unfold Oper.wp;rw [hrun];refine hK _ _ ?_;refine Sub.drop ?_ (fun i q hq=>?_) (fun i o ho=>?_) _ _ hr
 ·rfl
 ·rw [Nat.zero_add,List.length_map];exact hq
 ·simp only [PState.newO,zC] at ho;simp only [PState.putD,PState.put,PState.setO,PState.junks,zC,List.nil_append]
  by_cases hi:i = id
  ·rw [if_pos hi] at ho ⊢;exact ho
  ·rw [if_neg hi] at ho;rw [if_neg hi,if_neg hi];exact ho
end
end
end Go.Ep

