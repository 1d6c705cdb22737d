/- Texts that the walks and laws lean on, side by side. -/
import Derived.Test.YtipkoiklahndlaaGreatProg
import Derived.Shelf.SlGeneric
import Derived.Shelf.SlLaysF0
import Derived.Ground.SlsfProg
import Derived.Shelf.SlSortCmp.WholeK
import Derived.Shelf.SlSortCmp.NoneTotal
import Derived.StillTactics
import Derived.RegionTactic
import Derived.Test.YtipkoiklahndlaaGreatMBc2
set_option linter.unusedVariables false
set_option linter.unusedSimpArgs false
namespace Go.Ep
open Go

def Zy (c1:List TPart):Int → M (M.Step Int (M.Ex Unit Bool)):=fun i12=>
 cond ((decide (i12 < (List.length c1:Int))))
  (M.bind (M.idx c1 i12) fun x14=>
  cond ((decide (30 < (List.length x14.runs:Int))))
   (M.pure (.done (.ret false)))
   (M.pure (.next (IntKind.i64.wrap (i12 + 1)))))
  (M.pure (.done (.brk ())))
def WI (c1:List TPart):M Bool:=
 cond ((decide (30 < (List.length c1:Int))))
  (M.pure false)
  (M.bind (M.loop (Zy c1) 0) (M.exk (fun _=>
  M.pure true)))

def Zz (l1:List TEvent):Int → M (M.Step Int (M.Ex Unit Bool)):=fun i21=>
 cond ((decide (i21 < (List.length l1:Int))))
  (M.bind (M.bind (M.idx l1 i21) fun x24=>
  cond ((decide (300 < (List.length x24.kills:Int))))
   (M.pure true)
   (M.bind (M.idx l1 i21) fun x27=>
   M.pure ((decide (200 < (ByteArray.size x27.text:Int)))))) (fun v23=>
  cond v23
   (M.pure (.done (.ret false)))
   (M.pure (.next (IntKind.i64.wrap (i21 + 1))))))
  (M.pure (.done (.brk ())))
def Yw (l1:List TEvent) (most2:Int):M Bool:=
 cond ((decide (most2 < (List.length l1:Int))))
  (M.pure false)
  (M.bind (M.loop (Zz l1) 0) (M.exk (fun _=>
  M.pure true)))

def jW (d1:TDelta):M Bool:=
 M.bind (M.bind (M.det (WI d1.from_)) fun v3=>
 cond v3
  (M.bind (M.det (WI d1.to_)) fun v6=>
  cond v6
   (M.bind (M.det (Yw d1.events 30)) fun v9=>
   M.pure v9)
   (M.pure false))
  (M.pure false)) (fun v2=>
 M.pure v2)

def YA (l1:List L18Act):Int → M (M.Step Int (M.Ex Unit Int)):=fun i29=>
 cond ((decide (i29 < (List.length l1:Int))))
  (M.bind (M.bind (M.idx l1 i29) fun x32=>
  M.bind (M.det (Yw ([x32.event]) 1)) fun v34=>
  cond (!v34)
   (M.pure true)
   (M.bind (M.idx l1 i29) fun x37=>
   M.bind (M.det (WI x37.ctx)) fun v39=>
   M.pure (!v39))) (fun v31=>
  cond v31
   (M.pure (.done (.ret 0)))
   (M.pure (.next (IntKind.i64.wrap (i29 + 1))))))
  (M.pure (.done (.brk ())))
def jX (l1:List L18Act) (most2:Int):M Int:=
 cond ((decide (most2 < (List.length l1:Int))))
  (M.pure 0)
  (M.bind (M.loop (YA l1) 0) (M.exk (fun _=>
  M.pure 1)))

def uU (a1:List Int) (b2:List Int):M Bool:=
 M.pure ((decide ((strL a1) = (strL b2))))

def xZ (x1:Int):M Bool:=
 M.pure (!decide (x1 = x1))

def yV (x1:Int) (y2:Int):M Int:=
 M.bind (M.det (xZ x1)) fun v3=>
 M.bind (M.det (xZ y2)) fun v5=>
 cond v3
  (cond v5
   (M.pure 0)
   (M.pure (-1)))
  (cond v5
   (M.pure 1)
   (cond (decide (x1 < y2))
    (M.pure (-1))
    (cond (decide (y2 < x1))
     (M.pure 1)
     (M.pure 0))))

def wn (l1:List TRun):Int × List TRun → M (M.Step (Int × List TRun) (List TRun)):=fun ⟨v23,some24⟩=>
 cond ((decide (v23 < (List.length l1:Int))))
  (M.bind (M.bind (M.idx l1 v23) fun x27=>
  M.bind (cond (decide (0 < x27.lo))
   (cond (decide (x27.lo ≤ x27.hi))
    (M.pure (decide (x27.hi ≤ 281474976710655)))
    (M.pure false))
   (M.pure false)) (fun v29=>
  cond v29
   (M.need ((List.length some24 + List.length ([x27])) * 16 ≤ 140737488355328) <|
   M.pure (some24 ++ [x27]))
   (M.pure some24))) (fun some26=>
  M.pure (.next (((IntKind.i64.wrap (v23 + 1)),some26)))))
  (M.pure (.done some24))
def wq (some2:List TRun) (s34:List TRun):Int × List TRun → M (M.Step (Int × List TRun) (List TRun)):=fun ⟨v69,out70⟩=>
 cond ((decide (v69 < ((List.length some2):Int))))
  (M.bind (M.bind (M.idx s34 v69) fun x73=>
  M.bind (cond ((decide (0 ≤ ((IntKind.i64.wrap (((List.length out70):Int) - 1))))))
   (M.bind (M.idx out70 ((IntKind.i64.wrap (((List.length out70):Int) - 1)))) fun x77=>
   M.pure ((decide (x73.lo ≤ (IntKind.u64.wrap (x77.hi + 1))))))
   (M.pure false)) (fun v75=>
  cond v75
   (M.bind (M.idx out70 ((IntKind.i64.wrap (((List.length out70):Int) - 1)))) fun x80=>
   M.bind (M.idx out70 ((IntKind.i64.wrap (((List.length out70):Int) - 1)))) fun x82=>
   M.pure ((List.set out70 ((Int.toNat ((IntKind.i64.wrap (((List.length out70):Int) - 1))))) (⟨x82.lo,(max x80.hi x73.hi)⟩:TRun))))
   (M.need ((List.length out70 + List.length ([x73])) * 16 ≤ 140737488355328) <|
   M.pure (out70 ++ [x73])))) (fun out72=>
  M.pure (.next (((IntKind.i64.wrap (v69 + 1)),out72)))))
  (M.pure (.done out70))
def wv (l1:List TRun):M (List TRun):=
 M.bind (M.loop (wn l1) (0,([]:List TRun))) (fun some2=>
 M.need (List.length some2 < 4611686018427387904)<|M.bind (M.srt Uc some2) fun s34=>
 M.bind (M.loop (wq some2 s34) (0,([]:List TRun))) (fun out38=>
 M.pure out38))

def xa (x1:Int):M Bool:=
 M.pure (!decide (x1 = x1))

def yr (x1:Int) (y2:Int):M Int:=
 M.bind (M.det (xa x1)) fun v3=>
 M.bind (M.det (xa y2)) fun v5=>
 cond v3
  (cond v5
   (M.pure 0)
   (M.pure (-1)))
  (cond v5
   (M.pure 1)
   (cond (decide (x1 < y2))
    (M.pure (-1))
    (cond (decide (y2 < x1))
     (M.pure 1)
     (M.pure 0))))

def uD (m1:List (Int × List TRun)):List Nat × List TPart → M (M.Step (List Nat × List TPart) (List TPart)):=fun ⟨seen28,c29⟩=>
 M.need (∀ i ∈ seen28,i < List.length m1)<|M.bind (M.nxt (List.length m1) seen28) fun o=>match o with
 | none=>
  M.pure (.done c29)
 | some j30=>
  M.bind (M.idx m1 (Int.ofNat j30)) fun kv34=>
  M.bind (M.det (wv kv34.2)) fun v36=>
  cond ((decide (0 < ((List.length v36):Int))))
   (M.need ((List.length c29 + List.length ([(⟨kv34.1,v36⟩:TPart)])) * 32 ≤ 140737488355328) <|
   M.pure (.next (((seen28 ++ [j30]),(c29 ++ [(⟨kv34.1,v36⟩:TPart)])))))
   (M.pure (.next ((seen28 ++ [j30]),c29)))
def uV (m1:List (Int × List TRun)):M (List TPart):=
 M.bind (M.loop (uD m1) ([],([]:List TPart))) (fun c3=>
 M.need (List.length c3 < 4611686018427387904)<|M.bind (M.srt Ur c3) fun s41=>
 M.pure s41)

def zX (p:TPart):Option (Int × List TRun):=if 0 < p.dev then some (p.dev,p.runs) else none
def XS (c1:List TPart):M (List (Int × List TRun)):=
 M.need (AL.growOK 16 (List.length c1) (List.filterMap zX c1)) <|
 M.pure ((AL.grow ([]:List (Int × List TRun)) (List.filterMap zX c1)))

def wd (c1:List TPart):M (List TPart):=
 M.bind (M.det (XS c1)) fun v2=>
 M.bind (M.det (uV v2)) fun v5=>
 M.pure v5

def zn (s1:List TDot):M (List TDot):=
 M.bind (M.isNil s1) fun b2=>
 cond b2
  (M.pure ([]:List TDot))
  (M.need ((List.length ([]:List TDot) + List.length s1) * 16 ≤ 140737488355328) <|
  M.pure (([]:List TDot) ++ s1))

def yT (e1:TEvent):M TEvent:=
 M.bind (M.det (zn e1.kills)) fun v2=>
 M.pure (⟨e1.dot,e1.kind,e1.cid,e1.field,e1.text,v2⟩:TEvent)

def Yx (a1:TDot) (b2:TDot):M Int:=
 M.bind (M.det (yr a1.dev b2.dev)) fun v3=>
 cond (!decide (v3 = 0))
  (M.pure v3)
  (M.bind (M.det (yV a1.n b2.n)) fun v6=>
  M.pure v6)

def uE :Int × Int → M (M.Step (Int × Int) Int):=fun ⟨v7,n8⟩=>
 cond (decide (0 < v7))
  (M.pure (.next (((Int.fdiv v7 (2 ^ 8)),(IntKind.i64.wrap (n8 + 1))))))
  (M.pure (.done n8))
def XT (v1:Int):M Int:=
 M.bind (M.loop uE (v1,0)) (fun n2=>
 M.pure n2)

def YB (v1:Int) (i2:Int):M Int:=
 cond ((decide (7 < (IntKind.u64.wrap i2))))
  (M.pure 0)
  (M.need ((0:Int) ≤ ((IntKind.u64.wrap (8 * (IntKind.u64.wrap i2))))) <|
  M.pure ((IntKind.u8.wrap ((Int.fdiv v1 (2 ^ (min (Int.toNat ((IntKind.u64.wrap (8 * (IntKind.u64.wrap i2))))) 64)))))))

def vH (v2:Int):Int × List Int → M (M.Step (Int × List Int) (List Int)):=fun ⟨i19,v20⟩=>
 cond (decide (0 ≤ i19))
  (M.bind (M.det (YB v2 i19)) fun v22=>
  M.need ((List.length v20 + List.length ([v22])) * 1 ≤ 140737488355328) <|
  M.pure (.next (((IntKind.i64.wrap (i19 - 1)),(v20 ++ [v22])))))
  (M.pure (.done v20))
def YC (b1:List Int) (v2:Int):M (List Int):=
 M.bind (M.det (XT v2)) fun v3=>
 M.need ((0:Int) ≤ ((IntKind.i64.wrap (((IntKind.i64.wrap ((List.length b1:Int) + v3))) + 1))) ∧ ((IntKind.i64.wrap (((IntKind.i64.wrap ((List.length b1:Int) + v3))) + 1))) * 1 ≤ 140737488355328) <|
 M.need ((List.length ([]:List Int) + List.length b1) * 1 ≤ 140737488355328) <|
 M.need ((List.length (([]:List Int) ++ b1) + List.length ([(IntKind.u8.wrap v3)])) * 1 ≤ 140737488355328) <|
 M.bind (M.loop (vH v2) (((IntKind.i64.wrap (v3 - 1)),((([]:List Int) ++ b1) ++ [(IntKind.u8.wrap v3)])))) (fun v8=>
 M.pure v8)

def ul (d1:TDot):M Bool:=
 M.bind (cond (decide (0 < d1.dev))
  (cond (decide (0 < d1.n))
   (M.pure (decide (d1.n ≤ 281474976710655)))
   (M.pure false))
  (M.pure false)) (fun v2=>
 M.pure v2)

def zY (row1:List TDot) (k148:Int):Int × Int × List TDot → M (M.Step (Int × Int × List TDot) (Int × List TDot)):=fun ⟨k197,k2_198,v199⟩=>
 cond ((decide (k2_198 < ((((List.length row1 - Int.toNat k148):Nat):Int)))))
  (M.bind (M.need ((0:Int) ≤ k2_198 ∧ k2_198 < (((List.length row1 - Int.toNat k148):Nat):Int))<|M.bind (M.idx v199 ((((Int.toNat k148) + Int.toNat k2_198):Nat):Int)) fun x203=>
  M.need ((0:Int) ≤ (IntKind.i64.wrap (k2_198 - 1)) ∧ (IntKind.i64.wrap (k2_198 - 1)) < (((List.length row1 - Int.toNat k148):Nat):Int))<|M.bind (M.idx v199 ((((Int.toNat k148) + Int.toNat (IntKind.i64.wrap (k2_198 - 1))):Nat):Int)) fun x207=>
  cond ((!(decide (x203.dev = x207.dev) && decide (x203.n = x207.n))))
   (M.need ((0:Int) ≤ k2_198 ∧ k2_198 < (((List.length row1 - Int.toNat k148):Nat):Int))<|M.bind (M.idx v199 ((((Int.toNat k148) + Int.toNat k2_198):Nat):Int)) fun x212=>
   M.bind (M.idx v199 k197) fun x216=>
   M.pure (((IntKind.i64.wrap (k197 + 1)),(List.set v199 (Int.toNat k197) x212))))
   (M.pure (k197,v199))) (fun ⟨k201,v202⟩=>
  M.pure (.next ((k201,(IntKind.i64.wrap (k2_198 + 1)),v202)))))
  (M.pure (.done (k197,v199)))
def zZ (row1:List TDot):Int → M (M.Step Int (M.Ex Unit (List TDot))):=fun k148=>
 cond ((decide (k148 < ((List.length row1):Int))))
  (M.bind (M.bind (M.idx row1 k148) fun x150=>
  M.bind (M.idx row1 (IntKind.i64.wrap (k148 - 1))) fun x152=>
  cond (((decide (x150.dev = x152.dev) && decide (x150.n = x152.n))))
   (M.need ((0:Int) ≤ k148 ∧ k148 ≤ (List.length row1:Int)) <|
   M.bind (M.loop (zY row1 k148) (k148,1,row1)) (fun ⟨k156,v157⟩=>
   M.need ((0:Int) ≤ k156 ∧ k156 ≤ (List.length v157:Int)) <|
   M.need ((Int.toNat k156) + (List.length v157 - Int.toNat k156) ≤ List.length v157) <|
   M.need ((0:Int) ≤ 0 ∧ (0:Int) ≤ k156 ∧ k156 ≤ (List.length ((List.take (Int.toNat k156) v157 ++ List.replicate (List.length v157 - Int.toNat k156) (⟨0,0⟩:TDot) ++ List.drop ((Int.toNat k156) + (List.length v157 - Int.toNat k156)) v157)):Int)) <|
   M.pure (.ret ((.done ((.ret (((List.take (Int.toNat k156) ((List.take (Int.toNat k156) v157 ++ List.replicate (List.length v157 - Int.toNat k156) (⟨0,0⟩:TDot) ++ List.drop ((Int.toNat k156) + (List.length v157 - Int.toNat k156)) v157))))))))))))
   (M.pure (.brk ()))) (M.exk (fun _=>
  M.pure (.next (IntKind.i64.wrap (k148 + 1))))))
  (M.pure (.done (.brk ())))
def zh (row1:List TDot):M (List TDot):=
 cond ((decide (((List.length row1):Int) < 2)))
  (M.pure row1)
  (M.bind (M.loop (zZ row1) 1) (M.exk (fun _=>
  M.pure row1)))

def YD (l1:List TDot):M (List TDot):=
 M.bind (M.det (zn l1)) fun v2=>
 M.need (List.length v2 < 4611686018427387904)<|M.bind (M.srt zL v2) fun s4=>
 M.bind (M.det (zh s4)) fun y8=>
 M.pure y8

def WJ :M (List TPart × Bool × (List (TDot × TEvent)) × Bool × (List (TDot × TEvent))):=
 M.pure ((([]:List TPart),true,([]:List (TDot × TEvent)),true,([]:List (TDot × TEvent))))

def yM (ctx_1:List TPart) (nl2:Bool) (m3:List (TDot × TEvent)) (nl4:Bool) (m5:List (TDot × TEvent)):M (List TPart):=
 M.bind (M.det (wd ctx_1)) fun v6=>
 M.pure v6

def yI (b1:List Int) (row2:List Int):M (List Int):=
 M.need ((List.length row2 + List.length b1) * 1 ≤ 140737488355328) <|
 M.pure (row2 ++ b1)

def zO (v1:Int) (row2:List Int):M (List Int):=
 M.bind (M.det (YC ([]:List Int) v1)) fun v3=>
 M.bind (M.det (yI v3 row2)) fun y5=>
 M.pure y5

def xF (x79:TPart):Int × List Int → M (M.Step (Int × List Int) (List Int)):=fun ⟨v101,v102⟩=>
 cond ((decide (v101 < (List.length x79.runs:Int))))
  (M.bind (M.idx x79.runs v101) fun x104=>
  M.bind (M.det (zO x104.lo v102)) fun y106=>
  M.bind (M.det (zO x104.hi y106)) fun y108=>
  M.pure (.next (((IntKind.i64.wrap (v101 + 1)),y108))))
  (M.pure (.done v102))
def xG (v3:List TPart):Int × List Int → M (M.Step (Int × List Int) (List Int)):=fun ⟨v75,v76⟩=>
 cond ((decide (v75 < ((List.length v3):Int))))
  (M.bind (M.bind (M.idx v3 v75) fun x79=>
  M.bind (M.det (zO (IntKind.u64.wrap x79.dev) v76)) fun y81=>
  M.bind (M.det (zO (IntKind.u64.wrap (List.length x79.runs:Int)) y81)) fun y83=>
  M.loop (xF x79) (0,y83)) (fun v78=>
  M.pure (.next (((IntKind.i64.wrap (v75 + 1)),v78)))))
  (M.pure (.done v76))
def yb (c1:List TPart) (row2:List Int):M (List Int):=
 M.bind (M.det (wd c1)) fun v3=>
 M.bind (M.det (zO ((IntKind.u64.wrap ((List.length v3):Int))) row2)) fun y5=>
 M.loop (xG v3) (0,y5)

def Zc (m2:List (TDot × TEvent)):List Nat × List TEvent → M (M.Step (List Nat × List TEvent) (List TEvent)):=fun ⟨seen32,out33⟩=>
 M.need (∀ i ∈ seen32,i < List.length m2)<|M.bind (M.nxt (List.length m2) seen32) fun o=>match o with
 | none=>
  M.pure (.done out33)
 | some j34=>
  M.bind (M.idx m2 (Int.ofNat j34)) fun kv38=>
  M.bind (M.det (yT kv38.2)) fun v40=>
  M.need ((List.length out33 + List.length ([v40])) * 80 ≤ 140737488355328) <|
  M.pure (.next ((seen32 ++ [j34]),(out33 ++ [v40])))
def Zd (m4:List (TDot × TEvent)):List Nat × List TEvent → M (M.Step (List Nat × List TEvent) (List TEvent)):=fun ⟨seen70,out71⟩=>
 M.need (∀ i ∈ seen70,i < List.length m4)<|M.bind (M.nxt (List.length m4) seen70) fun o=>match o with
 | none=>
  M.pure (.done out71)
 | some j72=>
  M.bind (M.idx m4 (Int.ofNat j72)) fun kv76=>
  M.bind (M.det (yT kv76.2)) fun v78=>
  M.need ((List.length out71 + List.length ([v78])) * 80 ≤ 140737488355328) <|
  M.pure (.next ((seen70 ++ [j72]),(out71 ++ [v78])))
def uF (nl1:Bool) (m2:List (TDot × TEvent)) (nl3:Bool) (m4:List (TDot × TEvent)):M (List TEvent):=
 M.bind (M.bind (M.loop (Zc m2) ([],([]:List TEvent))) (fun out8=>
 M.bind (M.loop (Zd m4) ([],out8)) (fun out46=>
 M.pure out46))) (fun out5=>
 M.need (List.length out5 < 4611686018427387904)<|M.bind (M.srt Zb out5) fun s82=>
 M.pure s82)

def yN (ctx_1:List TPart) (nl2:Bool) (m3:List (TDot × TEvent)) (nl4:Bool) (m5:List (TDot × TEvent)):M (List TEvent):=
 M.bind (M.det (uF nl2 m3 nl4 m5)) fun y6=>
 M.pure y6

def xV (d1:TDot) (row2:List Int):M (List Int):=
 M.bind (M.det (zO (IntKind.u64.wrap d1.dev) row2)) fun y3=>
 M.bind (M.det (zO d1.n y3)) fun y5=>
 M.pure y5

def yW (c1:Int) (row2:List Int):M (List Int):=
 M.bind (M.det (yI ([c1]) row2)) fun y3=>
 M.pure y3

def yt (s1:ByteArray) (row2:List Int):M (List Int):=
 M.bind (M.det (zO (IntKind.u64.wrap (ByteArray.size s1:Int)) row2)) fun y3=>
 M.need (ByteArray.size s1 ≤ 9223372036854775807) <|
 M.bind (M.det (yI (yQ s1) y3)) fun y6=>
 M.pure y6

def yX (l1:List TDot):Int × List TDot → M (M.Step (Int × List TDot) (List TDot)):=fun ⟨v22,some23⟩=>
 cond ((decide (v22 < (List.length l1:Int))))
  (M.bind (M.bind (M.idx l1 v22) fun x26=>
  M.bind (M.det (ul x26)) fun v28=>
  cond v28
   (M.need ((List.length some23 + List.length ([x26])) * 16 ≤ 140737488355328) <|
   M.pure (some23 ++ [x26]))
   (M.pure some23)) (fun some25=>
  M.pure (.next (((IntKind.i64.wrap (v22 + 1)),some25)))))
  (M.pure (.done some23))
def yu (v32:List TDot):Int × List Int → M (M.Step (Int × List Int) (List Int)):=fun ⟨v48,v49⟩=>
 cond ((decide (v48 < ((List.length v32):Int))))
  (M.bind (M.idx v32 v48) fun x51=>
  M.bind (M.det (xV x51 v49)) fun y53=>
  M.pure (.next (((IntKind.i64.wrap (v48 + 1)),y53))))
  (M.pure (.done v49))
def xl (l1:List TDot) (row2:List Int):M (List Int):=
 M.bind (M.loop (yX l1) (0,([]:List TDot))) (fun some3=>
 M.bind (M.det (YD some3)) fun v32=>
 M.bind (M.det (zO ((IntKind.u64.wrap ((List.length v32):Int))) row2)) fun y34=>
 M.loop (yu v32) (0,y34))

def um (e1:TEvent) (row2:List Int):M (List Int):=
 M.bind (M.det (xV e1.dot row2)) fun y3=>
 M.bind (M.det (yW e1.kind y3)) fun y5=>
 M.bind (M.det (zO e1.cid y5)) fun y7=>
 M.bind (M.det (yW e1.field y7)) fun y9=>
 M.bind (M.det (yt e1.text y9)) fun y11=>
 M.bind (M.det (xl e1.kills y11)) fun y13=>
 M.pure y13

def xH (l1:List TEvent):Int × List Int → M (M.Step (Int × List Int) (List Int)):=fun ⟨v17,v18⟩=>
 cond ((decide (v17 < (List.length l1:Int))))
  (M.bind (M.idx l1 v17) fun x20=>
  M.bind (M.det (um x20 v18)) fun y22=>
  M.pure (.next (((IntKind.i64.wrap (v17 + 1)),y22))))
  (M.pure (.done v18))
def yn (l1:List TEvent) (row2:List Int):M (List Int):=
 M.bind (M.det (zO (IntKind.u64.wrap (List.length l1:Int)) row2)) fun y3=>
 M.loop (xH l1) (0,y3)

def zw (row1:List Int):M (List Int × List Int):=
 M.need (List.length row1 * 1 ≤ 140737488355328) <|
 M.pure (row1,row1)

def yo (ctx_1:List TPart) (nl2:Bool) (m3:List (TDot × TEvent)) (nl4:Bool) (m5:List (TDot × TEvent)):M (List Int):=
 M.bind (M.det (yM ctx_1 nl2 m3 nl4 m5)) fun y6=>
 M.bind (M.det (yb y6 ([]:List Int))) fun y8=>
 M.bind (M.det (yN ctx_1 nl2 m3 nl4 m5)) fun y10=>
 M.bind (M.det (yn y10 y8)) fun y12=>
 M.bind (M.det (zw y12)) fun y14=>
 M.pure y14.1

def xx :M (List TPart):=
 M.pure ([]:List TPart)

def xy :M (List TEvent):=
 M.pure ([]:List TEvent)

def xb :M (List Int):=
 M.bind (M.det (xx)) fun v1=>
 M.bind (M.det (yb v1 ([]:List Int))) fun y3=>
 M.bind (M.det (xy)) fun v5=>
 M.bind (M.det (yn v5 y3)) fun y7=>
 M.bind (M.det (zw y7)) fun y9=>
 M.pure y9.1

def Ze :M Bool:=
 M.bind (M.bind (M.det (WJ)) fun y2=>
 M.bind (M.det (yo y2.1 y2.2.1 y2.2.2.1 y2.2.2.2.1 y2.2.2.2.2)) fun y4=>
 M.bind (M.det (uU y4 ([0,0]))) fun v6=>
 cond v6
  (M.bind (M.det (xb)) fun v9=>
  M.bind (M.det (uU v9 ([0,0]))) fun v11=>
  M.pure v11)
  (M.pure false)) (fun v1=>
 M.pure v1)

def vI (d1:TDot):M Bool:=
 M.bind (cond (decide (1 ≤ d1.dev))
  (cond (decide (1 ≤ d1.n))
   (M.pure (decide (d1.n < 281474976710656)))
   (M.pure false))
  (M.pure false)) (fun v2=>
 M.pure v2)

def Vg (x1:TRun):M Bool:=
 M.bind (cond (decide (1 ≤ x1.lo))
  (cond (decide (x1.lo ≤ x1.hi))
   (M.pure (decide (x1.hi ≤ 281474976710655)))
   (M.pure false))
  (M.pure false)) (fun v2=>
 M.pure v2)

def YE (l1:List TRun) (n2:Int):Int → M (M.Step Int (M.Ex Unit Bool)):=fun i30=>
 cond ((decide (i30 < (List.length l1:Int))))
  (M.bind (M.bind (M.idx l1 i30) fun x33=>
  M.bind (M.det (Vg x33)) fun v35=>
  cond v35
   (M.bind (M.idx l1 i30) fun x38=>
   cond (decide (x38.lo ≤ n2))
    (M.bind (M.idx l1 i30) fun x41=>
    M.pure (decide (n2 ≤ x41.hi)))
    (M.pure false))
   (M.pure false)) (fun v32=>
  cond v32
   (M.pure (.done (.ret true)))
   (M.pure (.next (IntKind.i64.wrap (i30 + 1))))))
  (M.pure (.done (.brk ())))
def WK (l1:List TRun) (n2:Int):M Bool:=
 M.bind (M.loop (YE l1 n2) 0) (M.exk (fun _=>
 M.pure false))

def YF (l1:List Int) (n2:Int):Bool × Int × List Int → M (M.Step (Bool × Int × List Int) (Bool × List Int)):=fun ⟨done43,i44,out45⟩=>
 cond ((decide (i44 < (List.length l1:Int))))
  (M.bind (M.bind (cond (!done43)
   (M.bind (M.idx l1 i44) fun x51=>
   M.pure (decide (n2 ≤ x51)))
   (M.pure false)) (fun v49=>
  M.bind (cond v49
   (M.need ((List.length out45 + List.length ([n2])) * 8 ≤ 140737488355328) <|
   M.pure (true,(out45 ++ [n2])))
   (M.pure (done43,out45))) (fun ⟨done53,out54⟩=>
  M.bind (M.idx l1 i44) fun x57=>
  cond (!decide (x57 = n2))
   (M.bind (M.idx l1 i44) fun x60=>
   M.need ((List.length out54 + List.length ([x60])) * 8 ≤ 140737488355328) <|
   M.pure (done53,(out54 ++ [x60])))
   (M.pure (done53,out54))))) (fun ⟨done47,out48⟩=>
  M.pure (.next ((done47,(IntKind.i64.wrap (i44 + 1)),out48)))))
  (M.pure (.done (done43,out45)))
def Vh (l1:List Int) (n2:Int):M (List Int):=
 M.bind (M.loop (YF l1 n2) (false,0,([]:List Int))) (fun ⟨done3,out4⟩=>
 M.bind (cond (!done3)
  (M.need ((List.length out4 + List.length ([n2])) * 8 ≤ 140737488355328) <|
  M.pure (out4 ++ [n2]))
  (M.pure out4)) (fun out63=>
 M.pure out63))

def vJ (a1:List TRun) (b2:List TRun):List Int × Int → M (M.Step (List Int × Int) (List Int)):=fun ⟨out38,i39⟩=>
 cond ((decide (i39 < (((List.length ((([]:List TRun) ++ a1) ++ b2)):Int)))))
  (M.bind (M.bind (M.idx (((([]:List TRun) ++ a1) ++ b2)) i39) fun x42=>
  M.bind (M.det (Vg x42)) fun v44=>
  cond v44
   (M.bind (M.idx (((([]:List TRun) ++ a1) ++ b2)) i39) fun x47=>
   M.bind (M.det (Vh out38 x47.lo)) fun v49=>
   M.bind (M.idx (((([]:List TRun) ++ a1) ++ b2)) i39) fun x51=>
   M.bind (M.det (Vh v49 (IntKind.u64.wrap (x51.hi + 1)))) fun v53=>
   M.pure v53)
   (M.pure out38)) (fun out41=>
  M.pure (.next ((out41,(IntKind.i64.wrap (i39 + 1)))))))
  (M.pure (.done out38))
def YG (a1:List TRun) (b2:List TRun):M (List Int):=
 M.need ((List.length ([]:List TRun) + List.length a1) * 16 ≤ 140737488355328) <|
 M.need ((List.length (([]:List TRun) ++ a1) + List.length b2) * 16 ≤ 140737488355328) <|
 M.bind (M.loop (vJ a1 b2) (([]:List Int),0)) (fun out5=>
 M.pure out5)

def YH (v4:List Int) (a1:List TRun) (b2:List TRun) (how3:Int):Int × List TRun → M (M.Step (Int × List TRun) (List TRun)):=fun ⟨i85,out86⟩=>
 cond ((decide ((IntKind.i64.wrap (i85 + 1)) < (List.length v4:Int))))
  (M.bind (M.bind (M.idx v4 i85) fun x89=>
  M.bind (M.det (WK a1 x89)) fun v91=>
  M.bind (M.idx v4 i85) fun x93=>
  M.bind (M.det (WK b2 x93)) fun v95=>
  M.bind (cond v91
   (M.pure true)
   (M.pure v95)) (fun in97=>
  M.bind (cond (decide (how3 = 1))
   (M.bind (cond v91
    (M.pure v95)
    (M.pure false)) (fun in101=>
   M.pure in101))
   (M.pure in97)) (fun in99=>
  M.bind (cond (decide (how3 = 2))
   (M.bind (cond v91
    (M.pure (!v95))
    (M.pure false)) (fun in105=>
   M.pure in105))
   (M.pure in99)) (fun in103=>
  M.bind (cond in103
   (cond ((decide (0 ≤ ((IntKind.i64.wrap (((List.length out86):Int) - 1))))))
    (M.bind (M.idx out86 ((IntKind.i64.wrap (((List.length out86):Int) - 1)))) fun x110=>
    M.bind (M.idx v4 i85) fun x112=>
    M.pure ((decide ((IntKind.u64.wrap (x110.hi + 1)) = x112))))
    (M.pure false))
   (M.pure false)) (fun v107=>
  cond v107
   (M.bind (M.idx v4 (IntKind.i64.wrap (i85 + 1))) fun x115=>
   M.bind (M.idx out86 ((IntKind.i64.wrap (((List.length out86):Int) - 1)))) fun x117=>
   M.pure ((List.set out86 ((Int.toNat ((IntKind.i64.wrap (((List.length out86):Int) - 1))))) ((⟨x117.lo,(IntKind.u64.wrap (x115 - 1))⟩:TRun)))))
   (cond in103
    (M.bind (M.idx v4 i85) fun x120=>
    M.bind (M.idx v4 (IntKind.i64.wrap (i85 + 1))) fun x122=>
    M.need ((List.length out86 + List.length ([(⟨x120,(IntKind.u64.wrap (x122 - 1))⟩:TRun)])) * 16 ≤ 140737488355328) <|
    M.pure ((out86 ++ [(⟨x120,(IntKind.u64.wrap (x122 - 1))⟩:TRun)])))
    (M.pure out86))))))) (fun out88=>
  M.pure (.next (((IntKind.i64.wrap (i85 + 1)),out88)))))
  (M.pure (.done out86))
def WL (a1:List TRun) (b2:List TRun) (how3:Int):M (List TRun):=
 M.bind (M.det (YG a1 b2)) fun v4=>
 M.bind (M.loop (YH v4 a1 b2 how3) (0,([]:List TRun))) (fun out6=>
 M.pure out6)

def XU (a1:List TRun) (b2:List TRun):M (List TRun):=
 M.bind (M.det (WL a1 b2 0)) fun v3=>
 M.pure v3

def un (c1:List TPart) (dev2:Int):List TRun × Int → M (M.Step (List TRun × Int) (List TRun)):=fun ⟨out28,i29⟩=>
 cond ((decide (i29 < (List.length c1:Int))))
  (M.bind (M.bind (M.bind (M.idx c1 i29) fun x33=>
  cond (decide (x33.dev = dev2))
   (M.pure (!decide (dev2 = 0)))
   (M.pure false)) (fun v32=>
  cond v32
   (M.bind (M.idx c1 i29) fun x37=>
   M.bind (M.det (XU out28 x37.runs)) fun v39=>
   M.pure v39)
   (M.pure out28))) (fun out31=>
  M.pure (.next ((out31,(IntKind.i64.wrap (i29 + 1)))))))
  (M.pure (.done out28))
def YI (c1:List TPart) (dev2:Int):M (List TRun):=
 M.bind (M.loop (un c1 dev2) (([]:List TRun),0)) (fun out3=>
 M.pure out3)

def uo (c1:List TPart) (d2:TDot):M Bool:=
 M.bind (M.bind (M.det (vI d2)) fun v4=>
 cond v4
  (M.bind (M.det (YI c1 d2.dev)) fun v7=>
  M.bind (M.det (WK v7 d2.n)) fun v9=>
  M.pure v9)
  (M.pure false)) (fun v3=>
 M.pure v3)

def Yy (a1:TDot) (b2:TDot):M Int:=
 cond (((decide (a1.dev = b2.dev) && decide (a1.n = b2.n))))
  (M.pure 0)
  (M.bind (cond (decide (a1.dev < b2.dev))
   (M.pure true)
   (cond (decide (a1.dev = b2.dev))
    (M.pure (decide (a1.n < b2.n)))
    (M.pure false))) (fun v4=>
  cond v4
   (M.pure (-1))
   (M.pure 1)))

def YJ (l1:List TDot) (d2:TDot):Int × List TDot → M (M.Step (Int × List TDot) (List TDot)):=fun ⟨i26,out27⟩=>
 cond ((decide (i26 < (List.length l1:Int))))
  (M.bind (M.bind (M.idx l1 i26) fun x30=>
  M.bind (M.det (Yy x30 d2)) fun v32=>
  cond (decide (v32 < 0))
   (M.bind (M.idx l1 i26) fun x35=>
   M.need ((List.length out27 + List.length ([x35])) * 16 ≤ 140737488355328) <|
   M.pure (out27 ++ [x35]))
   (M.pure out27)) (fun out29=>
  M.pure (.next (((IntKind.i64.wrap (i26 + 1)),out29)))))
  (M.pure (.done out27))
def uW (l1:List TDot) (d2:TDot):Int × List TDot → M (M.Step (Int × List TDot) (List TDot)):=fun ⟨i62,out63⟩=>
 cond ((decide (i62 < (List.length l1:Int))))
  (M.bind (M.bind (M.idx l1 i62) fun x66=>
  M.bind (M.det (Yy x66 d2)) fun v68=>
  cond (decide (0 < v68))
   (M.bind (M.idx l1 i62) fun x71=>
   M.need ((List.length out63 + List.length ([x71])) * 16 ≤ 140737488355328) <|
   M.pure (out63 ++ [x71]))
   (M.pure out63)) (fun out65=>
  M.pure (.next (((IntKind.i64.wrap (i62 + 1)),out65)))))
  (M.pure (.done out63))
def up (l1:List TDot) (d2:TDot):M (List TDot):=
 M.bind (M.loop (YJ l1 d2) (0,([]:List TDot))) (fun out3=>
 M.need ((List.length out3 + List.length ([d2])) * 16 ≤ 140737488355328) <|
 M.bind (M.loop (uW l1 d2) (0,(out3 ++ [d2]))) (fun out39=>
 M.pure out39))

def uq (a1:List TPart):List TDot × Int → M (M.Step (List TDot × Int) (List TDot)):=fun ⟨out16,i17⟩=>
 cond ((decide (i17 < (List.length a1:Int))))
  (M.bind (M.idx a1 i17) fun x19=>
  M.bind (M.det (up out16 (⟨x19.dev,1⟩:TDot))) fun v21=>
  M.pure (.next ((v21,(IntKind.i64.wrap (i17 + 1))))))
  (M.pure (.done out16))
def vd (b2:List TPart):List TDot × Int → M (M.Step (List TDot × Int) (List TDot)):=fun ⟨out36,i37⟩=>
 cond ((decide (i37 < (List.length b2:Int))))
  (M.bind (M.idx b2 i37) fun x39=>
  M.bind (M.det (up out36 (⟨x39.dev,1⟩:TDot))) fun v41=>
  M.pure (.next ((v41,(IntKind.i64.wrap (i37 + 1))))))
  (M.pure (.done out36))
def Wx (a1:List TPart) (b2:List TPart):M (List TDot):=
 M.bind (M.loop (uq a1) (([]:List TDot),0)) (fun out3=>
 M.bind (M.loop (vd b2) (out3,0)) (fun out23=>
 M.pure out23))

def Wy (a1:List TRun) (b2:List TRun):M (List TRun):=
 M.bind (M.det (WL a1 b2 1)) fun v3=>
 M.pure v3

def XV (a1:List TRun) (b2:List TRun):M (List TRun):=
 M.bind (M.det (WL a1 b2 2)) fun v3=>
 M.pure v3

def YK (v4:List TDot) (a1:List TPart) (b2:List TPart) (how3:Int):Int × List TPart → M (M.Step (Int × List TPart) (List TPart)):=fun ⟨i57,out58⟩=>
 cond ((decide (i57 < (List.length v4:Int))))
  (M.bind (M.bind (M.idx v4 i57) fun x61=>
  M.bind (M.det (YI a1 x61.dev)) fun v63=>
  M.bind (M.idx v4 i57) fun x65=>
  M.bind (M.det (YI b2 x65.dev)) fun v67=>
  M.bind (M.det (XU v63 v67)) fun v69=>
  M.bind (cond (decide (how3 = 1))
   (M.bind (M.det (Wy v63 v67)) fun v73=>
   M.pure v73)
   (M.pure v69)) (fun z71=>
  M.bind (cond (decide (how3 = 2))
   (M.bind (M.det (XV v63 v67)) fun v77=>
   M.pure v77)
   (M.pure z71)) (fun z75=>
  cond ((decide (0 < (List.length z75:Int))))
   (M.bind (M.idx v4 i57) fun x80=>
   M.need ((List.length out58 + List.length ([(⟨x80.dev,z75⟩:TPart)])) * 32 ≤ 140737488355328) <|
   M.pure (out58 ++ [(⟨x80.dev,z75⟩:TPart)]))
   (M.pure out58)))) (fun out60=>
  M.pure (.next (((IntKind.i64.wrap (i57 + 1)),out60)))))
  (M.pure (.done out58))
def Vi (a1:List TPart) (b2:List TPart) (how3:Int):M (List TPart):=
 M.bind (M.det (Wx a1 b2)) fun v4=>
 M.bind (M.loop (YK v4 a1 b2 how3) (0,([]:List TPart))) (fun out6=>
 M.pure out6)

def ur (a1:List TPart) (b2:List TPart):M (List TPart):=
 M.bind (M.det (Vi a1 b2 0)) fun v3=>
 M.pure v3

def XW (l1:List TDot):List TPart × Int → M (M.Step (List TPart × Int) (List TPart)):=fun ⟨out35,i36⟩=>
 cond ((decide (i36 < (List.length l1:Int))))
  (M.bind (M.bind (M.idx l1 i36) fun x39=>
  M.bind (M.det (vI x39)) fun v41=>
  cond v41
   (M.bind (M.idx l1 i36) fun x44=>
   M.bind (M.idx l1 i36) fun x46=>
   M.bind (M.idx l1 i36) fun x48=>
   M.bind (M.det (ur out35 ([(⟨x44.dev,[(⟨x46.n,x48.n⟩:TRun)]⟩:TPart)]))) fun v50=>
   M.pure v50)
   (M.pure out35)) (fun out38=>
  M.pure (.next ((out38,(IntKind.i64.wrap (i36 + 1)))))))
  (M.pure (.done out35))
def zJa (l1:List TDot):M (List TPart):=
 M.bind (M.loop (XW l1) (([]:List TPart),0)) (fun out2=>
 M.pure out2)

def YL (l1:List TDot) (d2:TDot):Int → M (M.Step Int (M.Ex Unit Bool)):=fun i12=>
 cond ((decide (i12 < (List.length l1:Int))))
  (M.bind (M.idx l1 i12) fun x14=>
  cond (((decide (x14.dev = d2.dev) && decide (x14.n = d2.n))))
   (M.pure (.done (.ret true)))
   (M.pure (.next (IntKind.i64.wrap (i12 + 1)))))
  (M.pure (.done (.brk ())))
def WM (l1:List TDot) (d2:TDot):M Bool:=
 M.bind (M.loop (YL l1 d2) 0) (M.exk (fun _=>
 M.pure false))

def XX (v1:Int):M (Int × Int):=
 M.pure (((IntKind.u16.wrap (IntKind.u64.wrap (Int.tdiv v1 281474976710656))),(Int.tmod v1 281474976710656)))

def YM (v1:Int):M (TDot × Bool):=
 M.bind (M.det (XX v1)) fun v2=>
 M.bind (M.det (vI (⟨v2.1,v2.2⟩:TDot))) fun v4=>
 cond (!v4)
  (M.pure ((⟨0,0⟩:TDot),false))
  (M.pure ((⟨v2.1,v2.2⟩:TDot),true))

def Wz (f1:Int):M Bool:=
 M.bind (cond (decide (1 ≤ f1))
  (M.pure (decide (f1 ≤ 5)))
  (M.pure false)) (fun v2=>
 M.pure v2)

def ve (s1:ByteArray):Int → M (M.Step Int (M.Ex Unit Bool)):=fun i19=>
 cond ((decide (i19 < (ByteArray.size s1:Int))))
  (M.bind (M.bind (M.idx (yQ s1) i19) fun b22=>
  cond (decide (b22 < 32))
   (M.pure true)
   (M.bind (M.idx (yQ s1) i19) fun b25=>
   M.pure (decide (126 < b25)))) (fun v21=>
  cond v21
   (M.pure (.done (.ret false)))
   (M.pure (.next (IntKind.i64.wrap (i19 + 1))))))
  (M.pure (.done (.brk ())))
def VA (s1:ByteArray):M Bool:=
 M.bind (M.loop (ve s1) 0) (M.exk (fun _=>
 M.pure ((decide ((ByteArray.size s1:Int) ≤ 60)))))

def xI (l1:List TDot):Int → M (M.Step Int (M.Ex Unit Bool)):=fun i19=>
 cond ((decide (i19 < (List.length l1:Int))))
  (M.bind (M.idx l1 (IntKind.i64.wrap (i19 - 1))) fun x21=>
  M.bind (M.idx l1 i19) fun x23=>
  M.bind (M.det (Yy x21 x23)) fun v25=>
  cond (decide (0 ≤ v25))
   (M.pure (.done (.ret false)))
   (M.pure (.next (IntKind.i64.wrap (i19 + 1)))))
  (M.pure (.done (.brk ())))
def YN (l1:List TDot):M Bool:=
 M.bind (M.loop (xI l1) 1) (M.exk (fun _=>
 M.pure true))

def vf (e1:TEvent):Int → M (M.Step Int (M.Ex Unit Bool)):=fun i37=>
 cond ((decide (i37 < (List.length e1.kills:Int))))
  (M.bind (M.idx e1.kills i37) fun x39=>
  M.bind (M.det (vI x39)) fun v41=>
  cond (!v41)
   (M.pure (.done (.ret false)))
   (M.pure (.next (IntKind.i64.wrap (i37 + 1)))))
  (M.pure (.done (.brk ())))
def XY (e1:TEvent):M Bool:=
 M.bind (M.det (YM e1.cid)) fun v2=>
 M.bind (cond (!v2.2)
  (M.pure true)
  (M.bind (M.det (vI e1.dot)) fun v6=>
  cond (!v6)
   (M.pure true)
   (cond (!decide (e1.kind = 1))
    (M.pure (!decide (e1.kind = 2)))
    (M.pure false)))) (fun v4=>
 cond v4
  (M.pure false)
  (M.bind (cond (decide (e1.kind = 1))
   (M.bind (M.det (Wz e1.field)) fun v13=>
   cond (!v13)
    (M.pure true)
    (M.bind (M.det (VA e1.text)) fun v16=>
    cond (!v16)
     (M.pure true)
     (cond (decide (e1.kind = 2))
      (cond (!decide (e1.field = 0))
       (M.pure true)
       (M.pure ((!decide (e1.text = (⟨#[]⟩:ByteArray))))))
      (M.pure false))))
   (cond (decide (e1.kind = 2))
    (cond (!decide (e1.field = 0))
     (M.pure true)
     (M.pure ((!decide (e1.text = (⟨#[]⟩:ByteArray))))))
    (M.pure false))) (fun v11=>
  cond v11
   (M.pure false)
   (M.bind (M.loop (vf e1) 0) (M.exk (fun _=>
   M.bind (cond ((decide ((List.length e1.kills:Int) ≤ 256)))
    (M.bind (M.det (YN e1.kills)) fun v46=>
    cond v46
     (M.bind (M.det (WM e1.kills e1.dot)) fun v49=>
     M.pure (!v49))
     (M.pure false))
    (M.pure false)) (fun v44=>
   M.pure v44)))))))

def vg (l1:List TEvent) (i80:Int):List TDot × Int → M (M.Step (List TDot × Int) (List TDot)):=fun ⟨out107,k108⟩=>
 M.bind (M.idx l1 i80) fun x109=>
 cond ((decide (k108 < (List.length x109.kills:Int))))
  (M.bind (M.idx l1 i80) fun x112=>
  M.bind (M.idx x112.kills k108) fun x114=>
  M.bind (M.det (up out107 x114)) fun v116=>
  M.pure (.next ((v116,(IntKind.i64.wrap (k108 + 1))))))
  (M.pure (.done out107))
def ut (l1:List TEvent):List TDot × Int → M (M.Step (List TDot × Int) (List TDot)):=fun ⟨out79,i80⟩=>
 cond ((decide (i80 < (List.length l1:Int))))
  (M.bind (M.bind (M.idx l1 i80) fun x83=>
  M.bind (M.det (up out79 x83.dot)) fun v85=>
  M.loop (vg l1 i80) (v85,0)) (fun out82=>
  M.pure (.next ((out82,(IntKind.i64.wrap (i80 + 1)))))))
  (M.pure (.done out79))
def YO (l1:List TEvent):M (List TDot):=
 M.bind (M.loop (ut l1) (([]:List TDot),0)) (fun out2=>
 M.pure out2)

def uX (l1:List TEvent) (e2:TEvent):Bool × Int × List TEvent → M (M.Step (Bool × Int × List TEvent) (M.Ex (Bool × List TEvent) (List TEvent))):=fun ⟨done38,i39,out40⟩=>
 cond ((decide (i39 < (List.length l1:Int))))
  (M.bind (M.idx l1 i39) fun x42=>
  M.bind (M.det (Yy x42.dot e2.dot)) fun v44=>
  cond (decide (v44 = 0))
   (M.pure (.done (.ret l1)))
   (M.bind (cond (decide (0 < v44))
    (M.pure (!done38))
    (M.pure false)) (fun v47=>
   M.bind (cond v47
    (M.need ((List.length out40 + List.length ([e2])) * 80 ≤ 140737488355328) <|
    M.pure (true,(out40 ++ [e2])))
    (M.pure (done38,out40))) (fun ⟨done49,out50⟩=>
   M.bind (M.idx l1 i39) fun x53=>
   M.need ((List.length out50 + List.length ([x53])) * 80 ≤ 140737488355328) <|
   M.pure (.next ((done49,(IntKind.i64.wrap (i39 + 1)),(out50 ++ [x53]))))))))
  (M.pure (.done (.brk (done38,out40))))
def jY (l1:List TEvent) (e2:TEvent):M (List TEvent):=
 M.bind (M.loop (uX l1 e2) (false,0,([]:List TEvent))) (M.exk (fun ⟨done3,out4⟩=>
 M.bind (cond (!done3)
  (M.need ((List.length out4 + List.length ([e2])) * 80 ≤ 140737488355328) <|
  M.pure (out4 ++ [e2]))
  (M.pure out4)) (fun out56=>
 M.pure out56)))

def uY (b1:R18Book) (e2:TEvent):Int × List TEvent → M (M.Step (Int × List TEvent) (List TEvent)):=fun ⟨i40,l41⟩=>
 cond ((decide (i40 < (List.length b1.l:Int))))
  (M.bind (M.bind (M.bind (M.idx b1.l i40) fun x45=>
  cond (!decide (x45.kind = 1))
   (M.pure true)
   (M.bind (M.idx b1.l i40) fun x48=>
   M.bind (M.det (WM e2.kills x48.dot)) fun v50=>
   M.pure (!v50))) (fun v44=>
  cond v44
   (M.bind (M.idx b1.l i40) fun x53=>
   M.need ((List.length l41 + List.length ([x53])) * 80 ≤ 140737488355328) <|
   M.pure (l41 ++ [x53]))
   (M.pure l41))) (fun l43=>
  M.pure (.next (((IntKind.i64.wrap (i40 + 1)),l43)))))
  (M.pure (.done l41))
def uu (b1:R18Book) (e2:TEvent):M (R18Book × Int):=
 M.bind (M.det (XY e2)) fun v3=>
 cond (!v3)
  (M.pure (b1,1))
  (M.bind (M.det (uo b1.ctx e2.dot)) fun v6=>
  cond v6
   (M.pure (b1,7))
   (M.bind (M.loop (uY b1 e2) (0,([]:List TEvent))) (fun l9=>
   M.bind (M.det (YO ([e2]))) fun v56=>
   M.bind (M.det (zJa v56)) fun v58=>
   M.bind (M.det (ur b1.ctx v58)) fun v60=>
   M.bind (M.det (jY l9 e2)) fun v62=>
   M.pure ((⟨v60,v62⟩:R18Book),0))))

def uv (l1:List TEvent) (k2:Int):Int × List TEvent → M (M.Step (Int × List TEvent) (List TEvent)):=fun ⟨i22,out23⟩=>
 cond ((decide (i22 < (List.length l1:Int))))
  (M.bind (M.bind (M.idx l1 i22) fun x26=>
  cond (decide (x26.kind = k2))
   (M.bind (M.idx l1 i22) fun x29=>
   M.need ((List.length out23 + List.length ([x29])) * 80 ≤ 140737488355328) <|
   M.pure (out23 ++ [x29]))
   (M.pure out23)) (fun out25=>
  M.pure (.next (((IntKind.i64.wrap (i22 + 1)),out25)))))
  (M.pure (.done out23))
def XZ (l1:List TEvent) (k2:Int):M (List TEvent):=
 M.bind (M.loop (uv l1 k2) (0,([]:List TEvent))) (fun out3=>
 M.pure out3)

def YP (b1:R18Book):M (List TEvent):=
 M.bind (M.det (XZ b1.l 1)) fun v2=>
 M.pure v2

def vK (l1:List TEvent) (cid2:Int):Int × List TEvent → M (M.Step (Int × List TEvent) (List TEvent)):=fun ⟨i30,some31⟩=>
 cond ((decide (i30 < (List.length l1:Int))))
  (M.bind (M.bind (M.bind (M.idx l1 i30) fun x35=>
  cond (decide (x35.kind = 1))
   (M.bind (M.idx l1 i30) fun x38=>
   M.pure (decide (x38.cid = cid2)))
   (M.pure false)) (fun v34=>
  cond v34
   (M.bind (M.idx l1 i30) fun x41=>
   M.need ((List.length some31 + List.length ([x41])) * 80 ≤ 140737488355328) <|
   M.pure (some31 ++ [x41]))
   (M.pure some31))) (fun some33=>
  M.pure (.next (((IntKind.i64.wrap (i30 + 1)),some33)))))
  (M.pure (.done some31))
def YQ (l1:List TEvent) (cid2:Int):M (List TDot):=
 M.bind (M.loop (vK l1 cid2) (0,([]:List TEvent))) (fun some3=>
 M.bind (M.det (YO some3)) fun v44=>
 M.pure v44)

def uw (l1:List TEvent) (cid2:Int) (f3:Int):Int × List TEvent → M (M.Step (Int × List TEvent) (List TEvent)):=fun ⟨i37,some38⟩=>
 cond ((decide (i37 < (List.length l1:Int))))
  (M.bind (M.bind (M.bind (M.idx l1 i37) fun x42=>
  cond (decide (x42.kind = 1))
   (M.bind (M.idx l1 i37) fun x45=>
   cond (decide (x45.cid = cid2))
    (M.bind (M.idx l1 i37) fun x48=>
    M.pure (decide (x48.field = f3)))
    (M.pure false))
   (M.pure false)) (fun v41=>
  cond v41
   (M.bind (M.idx l1 i37) fun x51=>
   M.need ((List.length some38 + List.length ([x51])) * 80 ≤ 140737488355328) <|
   M.pure (some38 ++ [x51]))
   (M.pure some38))) (fun some40=>
  M.pure (.next (((IntKind.i64.wrap (i37 + 1)),some40)))))
  (M.pure (.done some38))
def VB (l1:List TEvent) (cid2:Int) (f3:Int):M (List TDot):=
 M.bind (M.loop (uw l1 cid2 f3) (0,([]:List TEvent))) (fun some4=>
 M.bind (M.det (YO some4)) fun v54=>
 M.pure v54)

def VC (b1:R18Book) (e2:TEvent):M (TEvent × Int):=
 M.bind (M.det (XY (⟨e2.dot,e2.kind,e2.cid,e2.field,e2.text,([]:List TDot)⟩:TEvent))) fun v3=>
 cond (!v3)
  (M.pure (((⟨(⟨0,0⟩:TDot),0,0,0,(⟨#[]⟩:ByteArray),([]:List TDot)⟩:TEvent),1)))
  (M.bind (M.det (uo b1.ctx e2.dot)) fun v6=>
  cond v6
   (M.pure (((⟨(⟨0,0⟩:TDot),0,0,0,(⟨#[]⟩:ByteArray),([]:List TDot)⟩:TEvent),7)))
   (M.bind (M.det (YP b1)) fun v9=>
   M.bind (M.det (YQ v9 e2.cid)) fun v11=>
   M.bind (cond (decide (e2.kind = 1))
    (M.bind (M.det (YP b1)) fun v15=>
    M.bind (M.det (VB v15 e2.cid e2.field)) fun v17=>
    M.pure v17)
    (M.pure v11)) (fun e13=>
   cond ((decide (256 < (List.length e13:Int))))
    (M.pure (((⟨(⟨0,0⟩:TDot),0,0,0,(⟨#[]⟩:ByteArray),([]:List TDot)⟩:TEvent),3)))
    (M.pure ((⟨e2.dot,e2.kind,e2.cid,e2.field,e2.text,e13⟩:TEvent),0)))))

def jZ (b1:R18Book) (c2:List TPart):M R18Book:=
 M.bind (M.det (ur b1.ctx c2)) fun v3=>
 M.pure (⟨v3,b1.l⟩:R18Book)

def Xa (e1:TEvent) (c2:List TPart):M TEvent:=
 M.bind (M.det (uo c2 e1.dot)) fun v3=>
 M.bind (cond v3
  (M.pure ([]:List TDot))
  (M.pure e1.kills)) (fun e5=>
 M.pure (⟨e1.dot,e1.kind,e1.cid,e1.field,e1.text,e5⟩:TEvent))

def ww (b1:R18Book) (c2:List TPart):Int × List TEvent → M (M.Step (Int × List TEvent) (List TEvent)):=fun ⟨i38,l39⟩=>
 cond ((decide (i38 < (List.length b1.l:Int))))
  (M.bind (M.bind (M.bind (M.idx b1.l i38) fun x43=>
  cond (decide (x43.kind = 1))
   (M.pure true)
   (M.bind (M.idx b1.l i38) fun x46=>
   M.bind (M.det (uo c2 x46.dot)) fun v48=>
   M.pure (!v48))) (fun v42=>
  cond v42
   (M.bind (M.idx b1.l i38) fun x51=>
   M.bind (M.det (Xa x51 c2)) fun v53=>
   M.need ((List.length l39 + List.length ([v53])) * 80 ≤ 140737488355328) <|
   M.pure (l39 ++ [v53]))
   (M.pure l39))) (fun l41=>
  M.pure (.next (((IntKind.i64.wrap (i38 + 1)),l41)))))
  (M.pure (.done l39))
def Xb (b1:R18Book) (c2:List TPart):M (R18Book × Int):=
 M.bind (M.loop (ww b1 c2) (0,([]:List TEvent))) (fun l3=>
 M.pure (((⟨b1.ctx,l3⟩:R18Book),(IntKind.i64.wrap ((List.length b1.l:Int) - (List.length l3:Int))))))

def Zf (l1:List L18Act):Int × List TPart × List TEvent → M (M.Step (Int × List TPart × List TEvent) (List TPart × List TEvent)):=fun ⟨i45,x46,x47⟩=>
 cond ((decide (i45 < (List.length l1:Int))))
  (M.bind (M.bind (M.idx l1 i45) fun x51=>
  cond (decide (x51.kind = 0))
   (M.bind (M.det (uu (⟨x46,x47⟩:R18Book) x51.event)) fun v54=>
   M.pure (v54.1.ctx,v54.1.l))
   (cond (decide (x51.kind = 1))
    (M.bind (M.det (VC (⟨x46,x47⟩:R18Book) x51.event)) fun v57=>
    M.bind (M.det (uu (⟨x46,x47⟩:R18Book) v57.1)) fun v59=>
    M.pure (v59.1.ctx,v59.1.l))
    (cond (decide (x51.kind = 2))
     (M.bind (M.det (jZ (⟨x46,x47⟩:R18Book) x51.ctx)) fun v62=>
     M.pure (v62.ctx,v62.l))
     (cond (decide (x51.kind = 3))
      (M.bind (M.det (Xb (⟨x46,x47⟩:R18Book) x51.ctx)) fun v65=>
      M.pure (v65.1.ctx,v65.1.l))
      (M.pure (x46,x47)))))) (fun ⟨x49,x50⟩=>
  M.pure (.next (((IntKind.i64.wrap (i45 + 1)),x49,x50)))))
  (M.pure (.done (x46,x47)))
def zKa (l1:List L18Act):M R18Book:=
 M.bind (M.loop (Zf l1) (0,([]:List TPart),([]:List TEvent))) (fun ⟨x2,x3⟩=>
 M.pure (⟨x2,x3⟩:R18Book))

def ux (v1:Int):M (Int × Int):=
 M.pure (((IntKind.u16.wrap (Int.fdiv v1 (2 ^ 48))),(bAnd .u64 v1 281474976710655)))

def YR (v1:Int):M (TDot × Bool):=
 M.bind (M.det (ux v1)) fun v2=>
 M.bind (M.det (ul (⟨v2.1,v2.2⟩:TDot))) fun v4=>
 cond (!v4)
  (M.pure ((⟨0,0⟩:TDot),false))
  (M.pure ((⟨v2.1,v2.2⟩:TDot),true))

def YS (f1:Int):M Bool:=
 M.bind (cond (decide (1 ≤ f1))
  (M.pure (decide (f1 ≤ 5)))
  (M.pure false)) (fun v2=>
 M.pure v2)

def xm (s1:ByteArray):Int → M (M.Step Int (M.Ex Unit Bool)):=fun v20=>
 cond ((decide (v20 < (ByteArray.size s1:Int))))
  (M.bind (M.bind (M.idx (yQ s1) v20) fun b23=>
  cond (decide (b23 < 32))
   (M.pure true)
   (M.bind (M.idx (yQ s1) v20) fun b26=>
   M.pure (decide (126 < b26)))) (fun v22=>
  cond v22
   (M.pure (.done (.ret false)))
   (M.pure (.next (IntKind.i64.wrap (v20 + 1))))))
  (M.pure (.done (.brk ())))
def YT (s1:ByteArray):M Bool:=
 cond ((decide (60 < (ByteArray.size s1:Int))))
  (M.pure false)
  (M.bind (M.loop (xm s1) 0) (M.exk (fun _=>
  M.pure true)))

def yY (l1:List TDot):Int → M (M.Step Int (M.Ex Unit Bool)):=fun v23=>
 cond ((decide (v23 < (List.length l1:Int))))
  (M.bind (cond (decide (0 < v23))
   (M.bind (M.idx l1 (IntKind.i64.wrap (v23 - 1))) fun x27=>
   M.bind (M.idx l1 v23) fun x29=>
   M.bind (M.det (Yx x27 x29)) fun v31=>
   M.pure (decide (0 ≤ v31)))
   (M.pure false)) (fun v25=>
  cond v25
   (M.pure (.done (.ret false)))
   (M.pure (.next (IntKind.i64.wrap (v23 + 1))))))
  (M.pure (.done (.brk ())))
def YU (l1:List TDot):M Bool:=
 M.bind (M.loop (yY l1) 0) (M.exk (fun _=>
 M.pure true))

def xn (e1:TEvent):Int → M (M.Step Int (M.Ex Unit Bool)):=fun v43=>
 cond ((decide (v43 < (List.length e1.kills:Int))))
  (M.bind (M.idx e1.kills v43) fun x45=>
  M.bind (M.bind (M.det (ul x45)) fun v48=>
  cond (!v48)
   (M.pure true)
   (M.pure (((decide (x45.dev = e1.dot.dev) && decide (x45.n = e1.dot.n)))))) (fun v47=>
  cond v47
   (M.pure (.done (.ret false)))
   (M.pure (.next (IntKind.i64.wrap (v43 + 1))))))
  (M.pure (.done (.brk ())))
def xz (e1:TEvent):M Bool:=
 M.bind (M.det (YR e1.cid)) fun v2=>
 M.bind (cond (!v2.2)
  (M.pure true)
  (M.bind (M.det (ul e1.dot)) fun v6=>
  M.pure (!v6))) (fun v4=>
 cond v4
  (M.pure false)
  (M.bind (cond (decide (e1.kind = 1))
   (M.bind (M.bind (M.det (YS e1.field)) fun v11=>
   cond (!v11)
    (M.pure true)
    (M.bind (M.det (YT e1.text)) fun v14=>
    M.pure (!v14))) (fun v10=>
   cond v10
    (M.pure (.ret false))
    (M.pure (.brk ()))))
   (cond (decide (e1.kind = 2))
    (M.bind (cond (!decide (e1.field = 0))
     (M.pure true)
     (M.pure ((!decide (e1.text = (⟨#[]⟩:ByteArray)))))) (fun v18=>
    cond v18
     (M.pure (.ret false))
     (M.pure (.brk ()))))
    (M.pure (.ret false)))) (M.exk (fun _=>
  M.bind (cond ((decide (256 < (List.length e1.kills:Int))))
   (M.pure true)
   (M.bind (M.det (YU e1.kills)) fun v23=>
   M.pure (!v23))) (fun v21=>
  cond v21
   (M.pure false)
   (M.bind (M.loop (xn e1) 0) (M.exk (fun _=>
   M.pure true))))))))

def zr (s1:List TDot) (v2:TDot):Int → M (M.Step Int (M.Ex Unit Int)):=fun v12=>
 cond ((decide (v12 < (List.length s1:Int))))
  (M.bind (M.idx s1 v12) fun x14=>
  cond (((decide (v2.dev = x14.dev) && decide (v2.n = x14.n))))
   (M.pure (.done (.ret v12)))
   (M.pure (.next (IntKind.i64.wrap (v12 + 1)))))
  (M.pure (.done (.brk ())))
def yi (s1:List TDot) (v2:TDot):M Int:=
 M.bind (M.loop (zr s1 v2) 0) (M.exk (fun _=>
 M.pure (-1)))

def yR (s1:List TDot) (v2:TDot):M Bool:=
 M.bind (M.det (yi s1 v2)) fun v3=>
 M.pure (decide (0 ≤ v3))

def ja (l1:List TDot) (d2:TDot):M Bool:=
 M.bind (M.det (yR l1 d2)) fun v3=>
 M.pure v3

def Yz (e1:TEvent) (d2:TDot):M Bool:=
 M.bind (M.det (ja e1.kills d2)) fun v3=>
 M.pure v3

def vL (l1:List TEvent) (d2:TDot):Int → M (M.Step Int (M.Ex Unit Bool)):=fun v16=>
 cond ((decide (v16 < (List.length l1:Int))))
  (M.bind (M.idx l1 v16) fun x18=>
  M.bind (M.det (Yz x18 d2)) fun v20=>
  cond v20
   (M.pure (.done (.ret true)))
   (M.pure (.next (IntKind.i64.wrap (v16 + 1)))))
  (M.pure (.done (.brk ())))
def wA (l1:List TEvent) (d2:TDot):M Bool:=
 M.bind (M.loop (vL l1 d2) 0) (M.exk (fun _=>
 M.pure false))

def vu (s1_1:List TRun) (s2_2:List TRun):Int → M (M.Step Int (M.Ex Unit Bool)):=fun v17=>
 cond ((decide (v17 < (List.length s1_1:Int))))
  (M.bind (M.idx s1_1 v17) fun x19=>
  M.bind (M.idx s2_2 v17) fun x21=>
  cond ((!(decide (x19.lo = x21.lo) && decide (x19.hi = x21.hi))))
   (M.pure (.done (.ret false)))
   (M.pure (.next (IntKind.i64.wrap (v17 + 1)))))
  (M.pure (.done (.brk ())))
def yH (s1_1:List TRun) (s2_2:List TRun):M Bool:=
 cond ((!decide ((List.length s1_1:Int) = (List.length s2_2:Int))))
  (M.pure false)
  (M.bind (M.loop (vu s1_1 s2_2) 0) (M.exk (fun _=>
  M.pure true)))

def Vj (x1:TPart) (y2:TPart):M Bool:=
 M.bind (cond (decide (x1.dev = y2.dev))
  (M.bind (M.det (yH x1.runs y2.runs)) fun v5=>
  M.pure v5)
  (M.pure false)) (fun v3=>
 M.pure v3)

def zM (s1_1:List TPart) (s2_2:List TPart):Int → M (M.Step Int (M.Ex Unit Bool)):=fun v21=>
 cond ((decide (v21 < (List.length s1_1:Int))))
  (M.bind (M.idx s1_1 v21) fun x23=>
  M.bind (M.idx s2_2 v21) fun x25=>
  M.bind (M.det (Vj x23 x25)) fun v27=>
  cond (!v27)
   (M.pure (.done (.ret false)))
   (M.pure (.next (IntKind.i64.wrap (v21 + 1)))))
  (M.pure (.done (.brk ())))
def zQ (s1_1:List TPart) (s2_2:List TPart):M Bool:=
 cond ((!decide ((List.length s1_1:Int) = (List.length s2_2:Int))))
  (M.pure false)
  (M.bind (M.loop (zM s1_1 s2_2) 0) (M.exk (fun _=>
  M.pure true)))

def Jy (a1:List TPart) (b2:List TPart):M Bool:=
 M.bind (M.det (zQ a1 b2)) fun v3=>
 M.pure v3

def VD (c1:List TPart):M Bool:=
 M.bind (M.det (wd c1)) fun v2=>
 M.bind (M.det (Jy c1 v2)) fun v4=>
 M.pure v4

def VE (c1:List TPart) (dev2:Int):M (List TRun):=
 M.bind (M.det (XS c1)) fun v3=>
 M.bind (M.det (wv (AL.getZ v3 dev2 ([]:List TRun)))) fun v6=>
 M.pure v6

def vh (x1:TRun) (n2:Int):M Int:=
 M.bind (M.det (yV x1.hi n2)) fun v3=>
 M.pure v3

def zN (x1:List TRun) (target2:Int):Int × Int → M (M.Step (Int × Int) Int):=fun ⟨i18,j19⟩=>
 cond (decide (i18 < j19))
  (M.bind (M.idx x1 ((IntKind.i64.wrap ((Int.fdiv ((IntKind.u64.wrap (IntKind.i64.wrap (i18 + j19)))) (2 ^ 1)))))) fun x21=>
  M.bind (M.det (vh x21 target2)) fun v23=>
  cond (decide (v23 < 0))
   (M.pure (.next (((IntKind.i64.wrap (((IntKind.i64.wrap ((Int.fdiv ((IntKind.u64.wrap (IntKind.i64.wrap (i18 + j19)))) (2 ^ 1))))) + 1)),j19))))
   (M.pure (.next ((i18,(IntKind.i64.wrap ((Int.fdiv ((IntKind.u64.wrap (IntKind.i64.wrap (i18 + j19)))) (2 ^ 1)))))))))
  (M.pure (.done i18))
def zJ (x1:List TRun) (target2:Int):M (Int × Bool):=
 M.bind (M.loop (zN x1 target2) (0,(List.length x1:Int))) (fun i3=>
 M.bind (cond ((decide (i3 < (List.length x1:Int))))
  (M.bind (M.idx x1 i3) fun x28=>
  M.bind (M.det (vh x28 target2)) fun v30=>
  M.pure (decide (v30 = 0)))
  (M.pure false)) (fun v26=>
 M.pure (i3,v26)))

def VF (l1:List TRun) (n2:Int):M Bool:=
 M.bind (M.det (wv l1)) fun v3=>
 M.bind (M.det (zJ v3 n2)) fun v5=>
 M.bind (cond ((decide (v5.1 < (List.length v3:Int))))
  (M.bind (M.idx v3 v5.1) fun x9=>
  M.pure (decide (x9.lo ≤ n2)))
  (M.pure false)) (fun v7=>
 M.pure v7)

def uR (c1:List TPart) (d2:TDot):M Bool:=
 M.bind (cond (decide (0 < d2.dev))
  (M.bind (M.det (VE c1 d2.dev)) fun v5=>
  M.bind (M.det (VF v5 d2.n)) fun v7=>
  M.pure v7)
  (M.pure false)) (fun v3=>
 M.pure v3)

def vM (l1:List TDot) (c2:List TPart) (has3:Bool):Int × List TDot → M (M.Step (Int × List TDot) (List TDot)):=fun ⟨v23,out24⟩=>
 cond ((decide (v23 < (List.length l1:Int))))
  (M.bind (M.bind (M.idx l1 v23) fun x27=>
  M.bind (M.det (uR c2 x27)) fun v29=>
  cond (v29 == has3)
   (M.need ((List.length out24 + List.length ([x27])) * 16 ≤ 140737488355328) <|
   M.pure (out24 ++ [x27]))
   (M.pure out24)) (fun out26=>
  M.pure (.next (((IntKind.i64.wrap (v23 + 1)),out26)))))
  (M.pure (.done out24))
def WN (l1:List TDot) (c2:List TPart) (has3:Bool):M (List TDot):=
 M.bind (M.loop (vM l1 c2 has3) (0,([]:List TDot))) (fun out4=>
 M.bind (M.det (YD out4)) fun v33=>
 M.pure v33)

def YV (l1:List TDot) (c2:List TPart):M (List TDot):=
 M.bind (M.det (WN l1 c2 false)) fun v3=>
 M.pure v3

def vN (l1:List TEvent):Int × List TDot → M (M.Step (Int × List TDot) (List TDot)):=fun ⟨v15,out16⟩=>
 cond ((decide (v15 < (List.length l1:Int))))
  (M.bind (M.idx l1 v15) fun x18=>
  M.need ((List.length out16 + List.length ([x18.dot])) * 16 ≤ 140737488355328) <|
  M.need ((List.length (out16 ++ [x18.dot]) + List.length x18.kills) * 16 ≤ 140737488355328) <|
  M.pure (.next (((IntKind.i64.wrap (v15 + 1)),((out16 ++ [x18.dot]) ++ x18.kills)))))
  (M.pure (.done out16))
def wG (l1:List TEvent):M (List TDot):=
 M.bind (M.loop (vN l1) (0,([]:List TDot))) (fun out2=>
 M.bind (M.det (YD out2)) fun v22=>
 M.pure v22)

def xp (c1:List TPart):M (List TPart):=
 M.bind (M.det (Vi c1 ([]:List TPart) 0)) fun v2=>
 M.pure v2

def YW :Int × Int → M (M.Step (Int × Int) Int):=fun ⟨v7,n8⟩=>
 cond (decide (0 < v7))
  (M.pure (.next (((IntKind.u64.wrap (Int.tdiv v7 256)),(IntKind.i64.wrap (n8 + 1))))))
  (M.pure (.done n8))
def jb (v1:Int):M Int:=
 M.bind (M.loop YW (v1,0)) (fun n2=>
 M.pure n2)

def wH (i2:Int):Int × Int → M (M.Step (Int × Int) Int):=fun ⟨v11,k12⟩=>
 cond (decide (k12 < i2))
  (M.pure (.next (((IntKind.u64.wrap (Int.tdiv v11 256)),(IntKind.i64.wrap (k12 + 1))))))
  (M.pure (.done v11))
def VG (v1:Int) (i2:Int):M Int:=
 M.bind (cond (decide (i2 < 0))
  (M.pure true)
  (M.pure (decide (7 < i2)))) (fun v3=>
 cond v3
  (M.pure 0)
  (M.bind (M.loop (wH i2) (v1,0)) (fun v6=>
  M.pure (IntKind.u8.wrap (Int.tmod v6 256)))))

def vO (v2:Int):Int × List Int → M (M.Step (Int × List Int) (List Int)):=fun ⟨i18,v19⟩=>
 cond (decide (0 ≤ i18))
  (M.bind (M.det (VG v2 i18)) fun v21=>
  M.need ((List.length v19 + List.length ([v21])) * 1 ≤ 140737488355328) <|
  M.pure (.next (((IntKind.i64.wrap (i18 - 1)),(v19 ++ [v21])))))
  (M.pure (.done v19))
def yF (b1:List Int) (v2:Int):M (List Int):=
 M.need ((List.length ([]:List Int) + List.length b1) * 1 ≤ 140737488355328) <|
 M.bind (M.det (jb v2)) fun v4=>
 M.need ((List.length (([]:List Int) ++ b1) + List.length ([(IntKind.u8.wrap v4)])) * 1 ≤ 140737488355328) <|
 M.bind (M.loop (vO v2) (((IntKind.i64.wrap (v4 - 1)),((([]:List Int) ++ b1) ++ [(IntKind.u8.wrap v4)])))) (fun v7=>
 M.pure v7)

def uZ (b1:List Int) (d2:TDot):M (List Int):=
 M.bind (M.det (yF b1 (IntKind.u64.wrap d2.dev))) fun v3=>
 M.bind (M.det (yF v3 d2.n)) fun v5=>
 M.pure v5

def uy (s2:ByteArray):Int × List Int → M (M.Step (Int × List Int) (List Int)):=fun ⟨i16,v17⟩=>
 cond ((decide (i16 < (ByteArray.size s2:Int))))
  (M.bind (M.idx (yQ s2) i16) fun b19=>
  M.need ((List.length v17 + List.length ([b19])) * 1 ≤ 140737488355328) <|
  M.pure (.next (((IntKind.i64.wrap (i16 + 1)),(v17 ++ [b19])))))
  (M.pure (.done v17))
def VH (b1:List Int) (s2:ByteArray):M (List Int):=
 M.bind (M.det (yF b1 (IntKind.u64.wrap (ByteArray.size s2:Int)))) fun v3=>
 M.bind (M.loop (uy s2) (0,v3)) (fun v5=>
 M.pure v5)

def xW (l2:List TDot):List TDot × Int → M (M.Step (List TDot × Int) (List TDot)):=fun ⟨some28,i29⟩=>
 cond ((decide (i29 < (List.length l2:Int))))
  (M.bind (M.bind (M.idx l2 i29) fun x32=>
  M.bind (M.det (vI x32)) fun v34=>
  cond v34
   (M.bind (M.idx l2 i29) fun x37=>
   M.bind (M.det (up some28 x37)) fun v39=>
   M.pure v39)
   (M.pure some28)) (fun some31=>
  M.pure (.next ((some31,(IntKind.i64.wrap (i29 + 1)))))))
  (M.pure (.done some28))
def we (some3:List TDot):List Int × Int → M (M.Step (List Int × Int) (List Int)):=fun ⟨out56,i57⟩=>
 cond ((decide (i57 < (List.length some3:Int))))
  (M.bind (M.idx some3 i57) fun x59=>
  M.bind (M.det (uZ out56 x59)) fun v61=>
  M.pure (.next ((v61,(IntKind.i64.wrap (i57 + 1))))))
  (M.pure (.done out56))
def uz (b1:List Int) (l2:List TDot):M (List Int):=
 M.bind (M.loop (xW l2) (([]:List TDot),0)) (fun some3=>
 M.bind (M.det (yF b1 (IntKind.u64.wrap (List.length some3:Int)))) fun v41=>
 M.bind (M.loop (we some3) (v41,0)) (fun out43=>
 M.pure out43))

def jc (b1:List Int) (e2:TEvent):M (List Int):=
 M.bind (M.det (uZ b1 e2.dot)) fun v3=>
 M.need ((List.length v3 + List.length ([e2.kind])) * 1 ≤ 140737488355328) <|
 M.bind (M.det (yF (v3 ++ [e2.kind]) e2.cid)) fun v6=>
 M.need ((List.length v6 + List.length ([e2.field])) * 1 ≤ 140737488355328) <|
 M.bind (M.det (VH (v6 ++ [e2.field]) e2.text)) fun v9=>
 M.bind (M.det (uz v9 e2.kills)) fun v11=>
 M.pure v11

def vP (l2:List TEvent):List Int × Int → M (M.Step (List Int × Int) (List Int)):=fun ⟨out18,i19⟩=>
 cond ((decide (i19 < (List.length l2:Int))))
  (M.bind (M.idx l2 i19) fun x21=>
  M.bind (M.det (jc out18 x21)) fun v23=>
  M.pure (.next ((v23,(IntKind.i64.wrap (i19 + 1))))))
  (M.pure (.done out18))
def ua (b1:List Int) (l2:List TEvent):M (List Int):=
 M.bind (M.det (yF b1 (IntKind.u64.wrap (List.length l2:Int)))) fun v3=>
 M.bind (M.loop (vP l2) (v3,0)) (fun out5=>
 M.pure out5)

def vQ (v3:List TPart) (i129:Int):List Int × Int → M (M.Step (List Int × Int) (List Int)):=fun ⟨out172,k173⟩=>
 M.bind (M.idx v3 i129) fun x174=>
 cond ((decide (k173 < (List.length x174.runs:Int))))
  (M.bind (M.idx v3 i129) fun x177=>
  M.bind (M.idx x177.runs k173) fun x179=>
  M.bind (M.det (yF out172 x179.lo)) fun v181=>
  M.bind (M.idx v3 i129) fun x183=>
  M.bind (M.idx x183.runs k173) fun x185=>
  M.bind (M.det (yF v181 x185.hi)) fun v187=>
  M.pure (.next ((v187,(IntKind.i64.wrap (k173 + 1))))))
  (M.pure (.done out172))
def vR (v3:List TPart):List Int × Int → M (M.Step (List Int × Int) (List Int)):=fun ⟨out128,i129⟩=>
 cond ((decide (i129 < ((List.length v3):Int))))
  (M.bind (M.bind (M.idx v3 i129) fun x132=>
  M.bind (M.det (yF out128 (IntKind.u64.wrap x132.dev))) fun v134=>
  M.bind (M.idx v3 i129) fun x136=>
  M.bind (M.det (yF v134 (IntKind.u64.wrap (List.length x136.runs:Int)))) fun v138=>
  M.loop (vQ v3 i129) (v138,0)) (fun out131=>
  M.pure (.next ((out131,(IntKind.i64.wrap (i129 + 1)))))))
  (M.pure (.done out128))
def xJ (b1:List Int) (c2:List TPart):M (List Int):=
 M.bind (M.det (xp c2)) fun v3=>
 M.bind (M.det (yF b1 ((IntKind.u64.wrap ((List.length v3):Int))))) fun v5=>
 M.bind (M.loop (vR v3) (v5,0)) (fun out7=>
 M.pure out7)

def uG (b1:List Int) (d2:TDelta):M (List Int):=
 M.bind (M.det (xJ b1 d2.from_)) fun v3=>
 M.bind (M.det (xJ v3 d2.to_)) fun v5=>
 M.bind (M.det (ua v5 d2.events)) fun v7=>
 M.pure v7

def YX (b1:R18Book):M (List Int):=
 M.bind (M.det (xJ ([]:List Int) b1.ctx)) fun v2=>
 M.bind (M.det (ua v2 b1.l)) fun v4=>
 M.pure v4

def wI (e1:TEvent) (nl2:Bool) (m3:List (TDot × TEvent)):M (Bool × (List (TDot × TEvent))):=
 M.bind (cond nl2
  (M.pure ([]:List (TDot × TEvent)))
  (M.pure m3)) (fun v4=>
 M.bind (M.det (yT e1)) fun v9=>
 M.pure (false,(AL.set v4 e1.dot v9)))

def zi (l2:List TEvent):Int × Bool × (List (TDot × TEvent)) × Bool × (List (TDot × TEvent)) → M (M.Step (Int × Bool × (List (TDot × TEvent)) × Bool × (List (TDot × TEvent))) (M.Ex (Bool × (List (TDot × TEvent)) × Bool × (List (TDot × TEvent))) (Unit ⊕ (List TPart × Bool × (List (TDot × TEvent)) × Bool × (List (TDot × TEvent)))))):=fun ⟨v72,nl73,v74,nl75,v76⟩=>
 cond ((decide (v72 < (List.length l2:Int))))
  (M.bind (M.bind (M.idx l2 v72) fun x82=>
  M.bind (M.bind (M.det (xz x82)) fun v85=>
  cond (!v85)
   (M.pure true)
   (cond (decide (0 < v72))
    (M.bind (M.idx l2 (IntKind.i64.wrap (v72 - 1))) fun x89=>
    M.bind (M.det (Yx x89.dot x82.dot)) fun v91=>
    cond (decide (0 ≤ v91))
     (M.pure true)
     (cond (decide (x82.kind = 1))
      (M.bind (M.det (wA l2 x82.dot)) fun v95=>
      M.pure v95)
      (M.pure false)))
    (cond (decide (x82.kind = 1))
     (M.bind (M.det (wA l2 x82.dot)) fun v98=>
     M.pure v98)
     (M.pure false)))) (fun v84=>
  cond v84
   (M.pure (.ret ((.done ((.ret (.inl ())))))))
   (cond (decide (x82.kind = 1))
    (M.bind (M.det (wI x82 nl75 v76)) fun y102=>
    M.pure (.brk (nl73,v74,y102.1,y102.2)))
    (M.bind (M.det (wI x82 nl73 v74)) fun y104=>
    M.pure (.brk (y104.1,y104.2,nl75,v76)))))) (M.exk (fun ⟨nl78,v79,nl80,v81⟩=>
  M.pure (.next (((IntKind.i64.wrap (v72 + 1)),nl78,v79,nl80,v81))))))
  (M.pure (.done (.brk (nl73,v74,nl75,v76))))
def yz (c1:List TPart) (l2:List TEvent):M (Unit ⊕ (List TPart × Bool × (List (TDot × TEvent)) × Bool × (List (TDot × TEvent)))):=
 M.bind (M.det (wd c1)) fun v3=>
 M.bind (M.loop (zi l2) ((0,true,([]:List (TDot × TEvent)),true,([]:List (TDot × TEvent))))) (M.exk (fun ⟨nl5,v6,nl7,v8⟩=>
 M.bind (M.bind (M.det (VD c1)) fun v107=>
 cond (!v107)
  (M.pure true)
  (M.bind (M.det (wG l2)) fun v110=>
  M.bind (M.det (YV v110 c1)) fun v112=>
  M.pure ((decide (0 < ((List.length v112):Int)))))) (fun v106=>
 cond v106
  (M.pure (.inl ()))
  (M.pure (.inr (v3,nl7,v8,nl5,v6))))))

def yU (d1:TDelta) (row2:List Int):M (List Int):=
 M.bind (M.det (yb d1.from_ row2)) fun y3=>
 M.bind (M.det (yb d1.to_ y3)) fun y5=>
 M.bind (M.det (yn d1.events y5)) fun y7=>
 M.pure y7

def xq (d1:TDelta) (l2:List L18Act):M Bool:=
 M.bind (M.bind (M.det (jW d1)) fun v4=>
 cond (!v4)
  (M.pure true)
  (M.bind (M.det (jX l2 20)) fun v7=>
  M.pure (decide (v7 = 0)))) (fun v3=>
 cond v3
  (M.bind (M.det (Ze)) fun v10=>
  M.pure v10)
  (M.bind (M.det (zKa l2)) fun v12=>
  M.bind (M.det (xp v12.ctx)) fun v14=>
  M.bind (M.det (yz v14 v12.l)) fun y16=>
  M.sum y16 (fun z18=>
   M.bind (M.det (yU d1 ([]:List Int))) fun y19=>
   M.pure false) (fun z21=>
   M.bind (M.det (yU d1 ([]:List Int))) fun y22=>
   M.bind (M.bind (M.det (zw y22)) fun y25=>
   M.bind (M.det (uG ([]:List Int) d1)) fun v27=>
   M.bind (M.det (uU y25.1 v27)) fun v29=>
   cond v29
    (M.bind (M.det (yo z21.1 z21.2.1 z21.2.2.1 z21.2.2.2.1 z21.2.2.2.2)) fun y32=>
    M.bind (M.det (YX v12)) fun v34=>
    M.bind (M.det (uU y32 v34)) fun v36=>
    cond v36
     (M.bind (M.det (Ze)) fun v39=>
     M.pure v39)
     (M.pure false))
    (M.pure false)) (fun v24=>
   M.pure v24))))

def ZA (a1:List TDot) (b2:List TDot):Int → M (M.Step Int (M.Ex Unit Bool)):=fun i17=>
 cond ((decide (i17 < (List.length a1:Int))))
  (M.bind (M.idx a1 i17) fun x19=>
  M.bind (M.idx b2 i17) fun x21=>
  cond ((!(decide (x19.dev = x21.dev) && decide (x19.n = x21.n))))
   (M.pure (.done (.ret false)))
   (M.pure (.next (IntKind.i64.wrap (i17 + 1)))))
  (M.pure (.done (.brk ())))
def VI (a1:List TDot) (b2:List TDot):M Bool:=
 cond ((!decide ((List.length a1:Int) = (List.length b2:Int))))
  (M.pure false)
  (M.bind (M.loop (ZA a1 b2) 0) (M.exk (fun _=>
  M.pure true)))

def jd (a1:TEvent) (b2:TEvent):M Bool:=
 M.bind (cond (((decide (a1.dot.dev = b2.dot.dev) && decide (a1.dot.n = b2.dot.n))))
  (cond (decide (a1.kind = b2.kind))
   (cond (decide (a1.cid = b2.cid))
    (cond (decide (a1.field = b2.field))
     (cond (decide (a1.text = b2.text))
      (M.bind (M.det (VI a1.kills b2.kills)) fun v9=>
      M.pure v9)
      (M.pure false))
     (M.pure false))
    (M.pure false))
   (M.pure false))
  (M.pure false)) (fun v3=>
 M.pure v3)

def yra (a1:List TRun) (b2:List TRun):Int → M (M.Step Int (M.Ex Unit Bool)):=fun i17=>
 cond ((decide (i17 < (List.length a1:Int))))
  (M.bind (M.idx a1 i17) fun x19=>
  M.bind (M.idx b2 i17) fun x21=>
  cond ((!(decide (x19.lo = x21.lo) && decide (x19.hi = x21.hi))))
   (M.pure (.done (.ret false)))
   (M.pure (.next (IntKind.i64.wrap (i17 + 1)))))
  (M.pure (.done (.brk ())))
def ysa (a1:List TRun) (b2:List TRun):M Bool:=
 cond ((!decide ((List.length a1:Int) = (List.length b2:Int))))
  (M.pure false)
  (M.bind (M.loop (yra a1 b2) 0) (M.exk (fun _=>
  M.pure true)))

def Xc (a1:List TPart) (b2:List TPart):Int → M (M.Step Int (M.Ex Unit Bool)):=fun i33=>
 cond ((decide (i33 < (List.length a1:Int))))
  (M.bind (M.bind (M.idx a1 i33) fun x36=>
  M.bind (M.idx b2 i33) fun x38=>
  cond (!decide (x36.dev = x38.dev))
   (M.pure true)
   (M.bind (M.idx a1 i33) fun x41=>
   M.bind (M.idx b2 i33) fun x43=>
   M.bind (M.det (ysa x41.runs x43.runs)) fun v45=>
   M.pure (!v45))) (fun v35=>
  cond v35
   (M.pure (.done (.ret false)))
   (M.pure (.next (IntKind.i64.wrap (i33 + 1))))))
  (M.pure (.done (.brk ())))
def Us (a1:List TPart) (b2:List TPart):M Bool:=
 cond ((!decide ((List.length a1:Int) = (List.length b2:Int))))
  (M.pure false)
  (M.bind (M.loop (Xc a1 b2) 0) (M.exk (fun _=>
  M.pure true)))

def Vk (d:TDot):Bool:=decide (0 < d.dev) && (decide (0 < d.n) && decide (d.n ≤ 281474976710655))
def Vl (d:TDot):Option (Int × List TRun):=if Vk d then some (d.dev,[⟨d.n,d.n⟩]) else none
def yta (l1:List TDot):M (List TPart):=
 M.need (AL.growOK 16 (List.length l1) (List.filterMap Vl l1)) <|
 M.bind (M.det (uV ((AL.grow ([]:List (Int × List TRun)) (List.filterMap Vl l1))))) fun v17=>
 M.pure v17

def YY (a1:List TEvent) (b2:List TEvent):Int → M (M.Step Int (M.Ex Unit Bool)):=fun i21=>
 cond ((decide (i21 < (List.length a1:Int))))
  (M.bind (M.idx a1 i21) fun x23=>
  M.bind (M.idx b2 i21) fun x25=>
  M.bind (M.det (jd x23 x25)) fun v27=>
  cond (!v27)
   (M.pure (.done (.ret false)))
   (M.pure (.next (IntKind.i64.wrap (i21 + 1)))))
  (M.pure (.done (.brk ())))
def Vm (a1:List TEvent) (b2:List TEvent):M Bool:=
 cond ((!decide ((List.length a1:Int) = (List.length b2:Int))))
  (M.pure false)
  (M.bind (M.loop (YY a1 b2) 0) (M.exk (fun _=>
  M.pure true)))

def yf (n1:Int):M (List TPart):=
 cond (decide (n1 < 0))
  M.fail
  (M.bind (cond ((decide (0 < ((IntKind.i64.wrap (n1 - (IntKind.i64.wrap (0 - 0))))))))
   (M.need (0 < ((IntKind.i64.wrap (n1 - (IntKind.i64.wrap (0 - 0))))) ∧ ((IntKind.i64.wrap (n1 - (IntKind.i64.wrap (0 - 0))))) * 32 ≤ 140737488355328) <|
   M.need ((0:Int) ≤ 0 ∧ (0:Int) ≤ 0 ∧ 0 ≤ (List.length ((List.replicate (Int.toNat ((IntKind.i64.wrap (n1 - (IntKind.i64.wrap (0 - 0)))))) (⟨0,([]:List TRun)⟩:TPart))):Int)) <|
   M.pure ((List.take (Int.toNat 0) ((List.replicate (Int.toNat ((IntKind.i64.wrap (n1 - (IntKind.i64.wrap (0 - 0)))))) (⟨0,([]:List TRun)⟩:TPart))))))
   (M.pure ([]))) (fun v3=>
  M.pure v3))

def zU (slices1:List (List TPart)):Int × Int → M (M.Step (Int × Int) Int):=fun ⟨size13,v14⟩=>
 cond ((decide (v14 < (List.length slices1:Int))))
  (M.bind (M.idx slices1 v14) fun x16=>
  cond ((decide (((IntKind.i64.wrap (size13 + (List.length x16:Int)))) < 0)))
   M.fail
   (M.pure (.next (((IntKind.i64.wrap (size13 + (List.length x16:Int))),(IntKind.i64.wrap (v14 + 1)))))))
  (M.pure (.done size13))
def zV (slices1:List (List TPart)):Int × List TPart → M (M.Step (Int × List TPart) (List TPart)):=fun ⟨v32,v33⟩=>
 cond ((decide (v32 < (List.length slices1:Int))))
  (M.bind (M.idx slices1 v32) fun x35=>
  M.need ((List.length v33 + List.length x35) * 32 ≤ 140737488355328) <|
  M.pure (.next (((IntKind.i64.wrap (v32 + 1)),(v33 ++ x35)))))
  (M.pure (.done v33))
def yp (slices1:List (List TPart)):M (List TPart):=
 M.bind (M.loop (zU slices1) (0,0)) (fun size2=>
 M.bind (M.det (yf size2)) fun v19=>
 M.bind (M.loop (zV slices1) (0,v19)) (fun v21=>
 M.pure v21))

def VJ (a1:List TPart) (b2:List TPart):M (List TPart):=
 M.bind (M.det (yp ([a1,b2]))) fun v3=>
 M.bind (M.det (wd v3)) fun v5=>
 M.pure v5

def je (c1:List TPart) (l2:List TDot):M (List TPart):=
 M.bind (M.det (yta l2)) fun v3=>
 M.bind (M.det (VJ c1 v3)) fun v5=>
 M.pure v5

def XA (e1:TEvent) (c2:List TPart):M TEvent:=
 M.bind (M.det (yT e1)) fun v3=>
 M.bind (M.det (uR c2 v3.dot)) fun v5=>
 M.bind (cond v5
  (M.pure ([]:List TDot))
  (M.pure v3.kills)) (fun e7=>
 M.pure (⟨v3.dot,v3.kind,v3.cid,v3.field,v3.text,e7⟩:TEvent))

def ZQ (e1:TEvent) (cv2:Int) (cv3:Int):M Bool:=
 M.bind (cond (decide (e1.cid = cv2))
  (M.pure (decide (e1.field = cv3)))
  (M.pure false)) (fun v4=>
 M.pure v4)

def zy (l1:List TEvent) (cv2:Int) (cv3:Int):Int × List TEvent → M (M.Step (Int × List TEvent) (List TEvent)):=fun ⟨v27,some28⟩=>
 cond ((decide (v27 < (List.length l1:Int))))
  (M.bind (M.bind (M.idx l1 v27) fun x31=>
  M.bind (cond (decide (x31.kind = 1))
   (M.bind (M.det (ZQ x31 cv2 cv3)) fun v35=>
   M.pure v35)
   (M.pure false)) (fun v33=>
  cond v33
   (M.need ((List.length some28 + List.length ([x31])) * 80 ≤ 140737488355328) <|
   M.pure (some28 ++ [x31]))
   (M.pure some28))) (fun some30=>
  M.pure (.next (((IntKind.i64.wrap (v27 + 1)),some30)))))
  (M.pure (.done some28))
def xv (l1:List TEvent) (cv2:Int) (cv3:Int):M (List TDot):=
 M.bind (M.loop (zy l1 cv2 cv3) (0,([]:List TEvent))) (fun some4=>
 M.bind (M.det (wG some4)) fun v39=>
 M.pure v39)

def YZ (l1:List TEvent) (cid2:Int) (f3:Int):M (List TDot):=
 M.bind (M.det (xv l1 cid2 f3)) fun v4=>
 M.pure v4

def uH (e1:TEvent) (cv2:Int):M Bool:=
 M.pure (decide (e1.cid = cv2))

def zo (l1:List TEvent) (cv2:Int):Int × List TEvent → M (M.Step (Int × List TEvent) (List TEvent)):=fun ⟨v26,some27⟩=>
 cond ((decide (v26 < (List.length l1:Int))))
  (M.bind (M.bind (M.idx l1 v26) fun x30=>
  M.bind (cond (decide (x30.kind = 1))
   (M.bind (M.det (uH x30 cv2)) fun v34=>
   M.pure v34)
   (M.pure false)) (fun v32=>
  cond v32
   (M.need ((List.length some27 + List.length ([x30])) * 80 ≤ 140737488355328) <|
   M.pure (some27 ++ [x30]))
   (M.pure some27))) (fun some29=>
  M.pure (.next (((IntKind.i64.wrap (v26 + 1)),some29)))))
  (M.pure (.done some27))
def xg (l1:List TEvent) (cv2:Int):M (List TDot):=
 M.bind (M.loop (zo l1 cv2) (0,([]:List TEvent))) (fun some3=>
 M.bind (M.det (wG some3)) fun v38=>
 M.pure v38)

def uI (l1:List TEvent) (cid2:Int):M (List TDot):=
 M.bind (M.det (xg l1 cid2)) fun v3=>
 M.pure v3

def Zg (m2:List (TDot × TEvent)):List Nat × List TEvent → M (M.Step (List Nat × List TEvent) (List TEvent)):=fun ⟨seen30,out31⟩=>
 M.need (∀ i ∈ seen30,i < List.length m2)<|M.bind (M.nxt (List.length m2) seen30) fun o=>match o with
 | none=>
  M.pure (.done out31)
 | some j32=>
  M.bind (M.idx m2 (Int.ofNat j32)) fun kv36=>
  M.bind (M.det (yT kv36.2)) fun v38=>
  M.need ((List.length out31 + List.length ([v38])) * 80 ≤ 140737488355328) <|
  M.pure (.next ((seen30 ++ [j32]),(out31 ++ [v38])))
def uJ (nl1:Bool) (m2:List (TDot × TEvent)):M (List TEvent):=
 M.bind (M.bind (M.loop (Zg m2) ([],([]:List TEvent))) (fun out6=>
 M.pure out6)) (fun out3=>
 M.need (List.length out3 < 4611686018427387904)<|M.bind (M.srt Zb out3) fun s42=>
 M.pure s42)

def zj (ctx_1:List TPart) (nl2:Bool) (m3:List (TDot × TEvent)) (nl4:Bool) (m5:List (TDot × TEvent)):M (List TEvent):=
 M.bind (M.det (uJ nl2 m3)) fun y6=>
 M.pure y6

def ZR (e1:TEvent) (ctx_2:List TPart) (nl3:Bool) (m4:List (TDot × TEvent)) (nl5:Bool) (m6:List (TDot × TEvent)):M (TEvent × Int):=
 M.bind (M.bind (M.det (xz (⟨e1.dot,e1.kind,e1.cid,e1.field,e1.text,([]:List TDot)⟩:TEvent))) fun v8=>
 cond (!v8)
  (M.pure (.ret ((((⟨(⟨0,0⟩:TDot),0,0,0,(⟨#[]⟩:ByteArray),([]:List TDot)⟩:TEvent),1)))))
  (M.bind (M.det (uR ctx_2 e1.dot)) fun v11=>
  cond v11
   (M.pure (.ret ((((⟨(⟨0,0⟩:TDot),0,0,0,(⟨#[]⟩:ByteArray),([]:List TDot)⟩:TEvent),7)))))
   (cond (decide (e1.kind = 1))
    (M.bind (M.det (zj ctx_2 nl3 m4 nl5 m6)) fun y15=>
    M.bind (M.det (YZ y15 e1.cid e1.field)) fun v17=>
    M.pure (.brk v17))
    (M.bind (M.det (zj ctx_2 nl3 m4 nl5 m6)) fun y19=>
    M.bind (M.det (uI y19 e1.cid)) fun v21=>
    M.pure (.brk v21))))) (M.exk (fun e7=>
 cond ((decide (256 < (List.length e7:Int))))
  (M.pure (((⟨(⟨0,0⟩:TDot),0,0,0,(⟨#[]⟩:ByteArray),([]:List TDot)⟩:TEvent),3)))
  (M.pure ((⟨e1.dot,e1.kind,e1.cid,e1.field,e1.text,e7⟩:TEvent),0))))

def yZ (e1:TEvent):Int × (List (TDot × TEvent)) → M (M.Step (Int × (List (TDot × TEvent))) (List (TDot × TEvent))):=fun ⟨v26,v27⟩=>
 cond ((decide (v26 < (List.length e1.kills:Int))))
  (M.bind (M.idx e1.kills v26) fun x29=>
  M.pure (.next (((IntKind.i64.wrap (v26 + 1)),(AL.del v27 x29)))))
  (M.pure (.done v27))
def yg (e1:TEvent) (ctx_2:List TPart) (nl3:Bool) (m4:List (TDot × TEvent)) (nl5:Bool) (m6:List (TDot × TEvent)):M (Int × List TPart × Bool × (List (TDot × TEvent)) × Bool × (List (TDot × TEvent))):=
 M.bind (M.det (xz e1)) fun v7=>
 cond (!v7)
  (M.pure (1,ctx_2,nl3,m4,nl5,m6))
  (M.bind (M.det (uR ctx_2 e1.dot)) fun v10=>
  cond v10
   (M.pure (7,ctx_2,nl3,m4,nl5,m6))
   (M.bind (M.det (wG ([e1]))) fun v13=>
   M.bind (M.det (je ctx_2 v13)) fun v15=>
   M.bind (M.loop (yZ e1) (0,m4)) (fun v17=>
   M.bind (cond (decide (e1.kind = 1))
    (M.bind (M.det (wI e1 nl3 v17)) fun y36=>
    M.pure (nl5,m6,y36.1,y36.2))
    (M.bind (M.det (wI e1 nl5 m6)) fun y38=>
    M.pure (y38.1,y38.2,nl3,v17))) (fun ⟨nl31,v32,nl33,v34⟩=>
   M.pure (0,v15,nl33,v34,nl31,v32)))))

def xK (ctx_1:List TPart) (nl2:Bool) (m3:List (TDot × TEvent)) (nl4:Bool) (m5:List (TDot × TEvent)):M (List TEvent):=
 M.bind (M.det (uJ nl4 m5)) fun y6=>
 M.pure y6

def xr (l1:List TEvent) (c2:List TPart) (nl3:Bool):Int × (List (TDot × TEvent)) → M (M.Step (Int × (List (TDot × TEvent))) (Bool × (List (TDot × TEvent)))):=fun ⟨v23,v24⟩=>
 cond ((decide (v23 < (List.length l1:Int))))
  (M.bind (M.bind (M.idx l1 v23) fun x27=>
  cond (AL.has v24 x27.dot)
   (M.bind (M.det (XA x27 c2)) fun v30=>
   M.need (AL.has v24 x27.dot = true) <|
   M.pure (AL.set v24 x27.dot v30))
   (M.pure v24)) (fun v26=>
  M.pure (.next (((IntKind.i64.wrap (v23 + 1)),v26)))))
  (M.pure (.done (nl3,v24)))
def Zh (l1:List TEvent) (c2:List TPart) (nl3:Bool) (m4:List (TDot × TEvent)):M (Bool × (List (TDot × TEvent))):=
 M.loop (xr l1 c2 nl3) (0,m4)

def yG (y7:List TEvent) (c1:List TPart):Int × Int × (List (TDot × TEvent)) → M (M.Step (Int × Int × (List (TDot × TEvent))) (Int × (List (TDot × TEvent)))):=fun ⟨n30,v31,v32⟩=>
 cond ((decide (v31 < ((List.length y7):Int))))
  (M.bind (M.bind (M.idx y7 v31) fun x36=>
  M.bind (M.det (uR c1 x36.dot)) fun v38=>
  cond v38
   (M.pure (((IntKind.i64.wrap (n30 + 1)),(AL.del v32 x36.dot))))
   (M.pure (n30,v32))) (fun ⟨n34,v35⟩=>
  M.pure (.next ((n34,(IntKind.i64.wrap (v31 + 1)),v35)))))
  (M.pure (.done (n30,v32)))
def ub (c1:List TPart) (ctx_2:List TPart) (nl3:Bool) (m4:List (TDot × TEvent)) (nl5:Bool) (m6:List (TDot × TEvent)):M (Int × Bool × (List (TDot × TEvent)) × Bool × (List (TDot × TEvent))):=
 M.bind (M.det (xK ctx_2 nl3 m4 nl5 m6)) fun y7=>
 M.bind (M.loop (yG y7 c1) (0,0,m6)) (fun ⟨n9,v10⟩=>
 M.bind (M.det (zj ctx_2 nl3 m4 nl5 v10)) fun y41=>
 M.bind (M.det (Zh y41 c1 nl3 m4)) fun y43=>
 M.pure (n9,y43.1,y43.2,nl5,v10))

def zLa (c1:List TPart):M Bool:=
 M.bind (M.det (xp c1)) fun v2=>
 M.bind (M.det (Us c1 v2)) fun v4=>
 M.pure v4

def Vn (b1:R18Book):M (List TEvent):=
 M.bind (M.det (XZ b1.l 2)) fun v2=>
 M.pure v2

def jf (a1:List TPart) (b2:List TPart):M Bool:=
 M.bind (M.det (wd a1)) fun v3=>
 M.bind (M.det (wd b2)) fun v5=>
 M.bind (M.det (Jy v3 v5)) fun v7=>
 M.pure v7

def vv (s1_1:List TDot) (s2_2:List TDot):Int → M (M.Step Int (M.Ex Unit Bool)):=fun v17=>
 cond ((decide (v17 < (List.length s1_1:Int))))
  (M.bind (M.idx s1_1 v17) fun x19=>
  M.bind (M.idx s2_2 v17) fun x21=>
  cond ((!(decide (x19.dev = x21.dev) && decide (x19.n = x21.n))))
   (M.pure (.done (.ret false)))
   (M.pure (.next (IntKind.i64.wrap (v17 + 1)))))
  (M.pure (.done (.brk ())))
def yj (s1_1:List TDot) (s2_2:List TDot):M Bool:=
 cond ((!decide ((List.length s1_1:Int) = (List.length s2_2:Int))))
  (M.pure false)
  (M.bind (M.loop (vv s1_1 s2_2) 0) (M.exk (fun _=>
  M.pure true)))

def jg (a1:List TDot) (b2:List TDot):M Bool:=
 M.bind (M.det (yj a1 b2)) fun v3=>
 M.pure v3

def WO (a1:TEvent) (b2:TEvent):M Bool:=
 M.bind (cond (((decide (a1.dot.dev = b2.dot.dev) && decide (a1.dot.n = b2.dot.n))))
  (cond (decide (a1.kind = b2.kind))
   (cond (decide (a1.cid = b2.cid))
    (cond (decide (a1.field = b2.field))
     (cond (decide (a1.text = b2.text))
      (M.bind (M.det (jg a1.kills b2.kills)) fun v9=>
      M.pure v9)
      (M.pure false))
     (M.pure false))
    (M.pure false))
   (M.pure false))
  (M.pure false)) (fun v3=>
 M.pure v3)

def zH (s1_1:List TEvent) (s2_2:List TEvent):Int → M (M.Step Int (M.Ex Unit Bool)):=fun v21=>
 cond ((decide (v21 < (List.length s1_1:Int))))
  (M.bind (M.idx s1_1 v21) fun x23=>
  M.bind (M.idx s2_2 v21) fun x25=>
  M.bind (M.det (WO x23 x25)) fun v27=>
  cond (!v27)
   (M.pure (.done (.ret false)))
   (M.pure (.next (IntKind.i64.wrap (v21 + 1)))))
  (M.pure (.done (.brk ())))
def za (s1_1:List TEvent) (s2_2:List TEvent):M Bool:=
 cond ((!decide ((List.length s1_1:Int) = (List.length s2_2:Int))))
  (M.pure false)
  (M.bind (M.loop (zH s1_1 s2_2) 0) (M.exk (fun _=>
  M.pure true)))

def Vo (a1:List TEvent) (b2:List TEvent):M Bool:=
 M.bind (M.det (za a1 b2)) fun v3=>
 M.pure v3

def Vp (ctx_1:List TPart) (ctx_2:List TPart) (nl3:Bool) (m4:List (TDot × TEvent)) (nl5:Bool) (m6:List (TDot × TEvent)) (nl7:Bool) (m8:List (TDot × TEvent)) (nl9:Bool) (m10:List (TDot × TEvent)):M Bool:=
 M.bind (M.bind (M.det (yM ctx_1 nl3 m4 nl5 m6)) fun y12=>
 M.bind (M.det (yM ctx_2 nl7 m8 nl9 m10)) fun y14=>
 M.bind (M.det (jf y12 y14)) fun v16=>
 cond v16
  (M.bind (M.det (yN ctx_1 nl3 m4 nl5 m6)) fun y19=>
  M.bind (M.det (yN ctx_2 nl7 m8 nl9 m10)) fun y21=>
  M.bind (M.det (Vo y19 y21)) fun v23=>
  M.pure v23)
  (M.pure false)) (fun v11=>
 M.pure v11)

def Zi (c1:List TPart) (ctx_2:List TPart) (nl3:Bool) (m4:List (TDot × TEvent)) (nl5:Bool) (m6:List (TDot × TEvent)):M (List TPart):=
 M.bind (M.det (VJ ctx_2 c1)) fun v7=>
 M.pure v7

def zMa (x1:R18Book) (ctx_2:List TPart) (nl3:Bool) (m4:List (TDot × TEvent)) (nl5:Bool) (m6:List (TDot × TEvent)):M Int:=
 M.bind (M.bind (M.det (yM ctx_2 nl3 m4 nl5 m6)) fun y8=>
 M.bind (M.det (xp x1.ctx)) fun v10=>
 M.bind (M.det (Us y8 v10)) fun v12=>
 cond v12
  (M.bind (M.det (zj ctx_2 nl3 m4 nl5 m6)) fun y15=>
  M.bind (M.det (YP x1)) fun v17=>
  M.bind (M.det (Vm y15 v17)) fun v19=>
  cond v19
   (M.bind (M.det (xK ctx_2 nl3 m4 nl5 m6)) fun y22=>
   M.bind (M.det (Vn x1)) fun v24=>
   M.bind (M.det (Vm y22 v24)) fun v26=>
   cond v26
    (M.bind (M.det (yN ctx_2 nl3 m4 nl5 m6)) fun y29=>
    M.bind (M.det (Vm y29 x1.l)) fun v31=>
    M.pure v31)
    (M.pure false))
   (M.pure false))
  (M.pure false)) (fun v7=>
 cond v7
  (M.pure 1)
  (M.pure 0))

def zNa (a1:List TPart) (b2:List TPart):M Bool:=
 M.bind (M.det (xp a1)) fun v3=>
 M.bind (M.det (xp b2)) fun v5=>
 M.bind (M.det (Us v3 v5)) fun v7=>
 M.pure v7

end Go.Ep

namespace Go.Proofs
open Go.Shelf
def Tryz.pdq192_ren : Go.Shelf.Ren:=⟨fun | 14=>192 | 20=>205 | 21=>206 | 22=>207 | 23=>208 | 24=>209 | 25=>210 | 26=>211 | 27=>212 | 46=>235 | 47=>236 | 48=>237 | 49=>238 | 50=>239 | 15=>193 | 57=>254 | 28=>213 | 29=>214 | n=>n,fun | 24=>69 | 22=>24 | 3=>3 | 25=>166 | 4=>4 | 0=>0 | 46=>212 | 45=>211 | 50=>194 | 66=>232 | 39=>200 | 55=>64 | 70=>236 | 76=>247 | 77=>248 | 53=>218 | 5=>5 | 9=>9 | n=>n,fun | n=>n⟩
theorem Tryz.pdq192 : Go.Proofs.SlLaysF0.n14 Tryz.prog Tryz.pdq192_ren:={
 mixed:=by kernel_rfl
 f14:=⟨Tryz.f192.name,by decide,Tryz.func192.trans (congrArg some (by kernel_rfl))⟩
 f15:=Tryz.func193.trans (congrArg some (by kernel_rfl))
 f20:=⟨Tryz.f205.name,by decide,Tryz.func205.trans (congrArg some (by kernel_rfl))⟩
 f21:=⟨Tryz.f206.name,by decide,Tryz.func206.trans (congrArg some (by kernel_rfl))⟩
 f22:=⟨Tryz.f207.name,by decide,Tryz.func207.trans (congrArg some (by kernel_rfl))⟩
 f23:=⟨Tryz.f208.name,by decide,Tryz.func208.trans (congrArg some (by kernel_rfl))⟩
 f24:=⟨Tryz.f209.name,by decide,Tryz.func209.trans (congrArg some (by kernel_rfl))⟩
 f25:=⟨Tryz.f210.name,by decide,Tryz.func210.trans (congrArg some (by kernel_rfl))⟩
 f26:=⟨Tryz.f211.name,by decide,Tryz.func211.trans (congrArg some (by kernel_rfl))⟩
 f27:=⟨Tryz.f212.name,by decide,Tryz.func212.trans (congrArg some (by kernel_rfl))⟩
 f28:=Tryz.func213.trans (congrArg some (by kernel_rfl))
 f29:=Tryz.func214.trans (congrArg some (by kernel_rfl))
 f46:=⟨Tryz.f235.name,by decide,Tryz.func235.trans (congrArg some (by kernel_rfl))⟩
 f47:=Tryz.func236.trans (congrArg some (by kernel_rfl))
 f48:=Tryz.func237.trans (congrArg some (by kernel_rfl))
 f49:=⟨Tryz.f238.name,by decide,Tryz.func238.trans (congrArg some (by kernel_rfl))⟩
 f50:=⟨Tryz.f239.name,by decide,Tryz.func239.trans (congrArg some (by kernel_rfl))⟩
 f57:=⟨Tryz.f254.name,by decide,Tryz.func254.trans (congrArg some (by kernel_rfl))⟩
 t0:=Tryz.underlying0
 a0:=Tryz.isAgg0
 z0:=Tryz.sizeOf0
 v0:=Tryz.zeroValue0
 t3:=Tryz.underlying3
 a3:=Tryz.isAgg3
 z3:=Tryz.sizeOf3
 v3:=Tryz.zeroValue3
 t4:=Tryz.underlying4
 a4:=Tryz.isAgg4
 z4:=Tryz.sizeOf4
 v4:=Tryz.zeroValue4
 t5:=Tryz.underlying5
 a5:=Tryz.isAgg5
 z5:=Tryz.sizeOf5
 v5:=Tryz.zeroValue5
 t9:=Tryz.underlying9
 a9:=Tryz.isAgg9
 z9:=Tryz.sizeOf9
 v9:=Tryz.zeroValue9
 t22:=Tryz.underlying24
 a22:=Tryz.isAgg24
 z22:=Tryz.sizeOf24
 v22:=Tryz.zeroValue24
 t25:=Tryz.underlying166
 a25:=Tryz.isAgg166
 z25:=Tryz.sizeOf166
 v25:=Tryz.zeroValue166
 t39:=Tryz.underlying200
 a39:=Tryz.isAgg200
 z39:=Tryz.sizeOf200
 v39:=Tryz.zeroValue200
 t45:=Tryz.underlying211
 a45:=Tryz.isAgg211
 z45:=Tryz.sizeOf211
 v45:=Tryz.zeroValue211
 t46:=Tryz.underlying212
 a46:=Tryz.isAgg212
 z46:=Tryz.sizeOf212
 v46:=Tryz.zeroValue212
 t50:=Tryz.underlying194
 a50:=Tryz.isAgg194
 z50:=Tryz.sizeOf194
 v50:=Tryz.zeroValue194
 t53:=Tryz.underlying218
 a53:=Tryz.isAgg218
 z53:=Tryz.sizeOf218
 v53:=Tryz.zeroValue218
 t55:=Tryz.underlying64
 a55:=Tryz.isAgg64
 z55:=Tryz.sizeOf64
 v55:=Tryz.zeroValue64
 t66:=Tryz.underlying232
 a66:=Tryz.isAgg232
 z66:=Tryz.sizeOf232
 v66:=Tryz.zeroValue232
 t70:=Tryz.underlying236
 a70:=Tryz.isAgg236
 z70:=Tryz.sizeOf236
 v70:=Tryz.zeroValue236
 t76:=Tryz.underlying247
 a76:=Tryz.isAgg247
 z76:=Tryz.sizeOf247
 v76:=Tryz.zeroValue247
 t77:=Tryz.underlying248
 a77:=Tryz.isAgg248
 z77:=Tryz.sizeOf248
 v77:=Tryz.zeroValue248 }
def Tryz.pdq198_ren : Go.Shelf.Ren:=⟨fun | 14=>198 | 20=>217 | 21=>218 | 22=>219 | 23=>220 | 24=>221 | 25=>222 | 26=>223 | 27=>224 | 46=>248 | 47=>236 | 48=>237 | 49=>249 | 50=>250 | 15=>193 | 57=>258 | 28=>213 | 29=>214 | n=>n,fun | 24=>81 | 22=>22 | 3=>3 | 25=>172 | 4=>4 | 0=>0 | 46=>212 | 45=>211 | 50=>194 | 66=>232 | 39=>200 | 55=>64 | 70=>236 | 76=>247 | 77=>248 | 53=>218 | 5=>5 | 9=>9 | n=>n,fun | n=>n⟩
theorem Tryz.pdq198 : Go.Proofs.SlLaysF0.n14 Tryz.prog Tryz.pdq198_ren:={
 mixed:=by kernel_rfl
 f14:=⟨Tryz.f198.name,by decide,Tryz.func198.trans (congrArg some (by kernel_rfl))⟩
 f15:=Tryz.func193.trans (congrArg some (by kernel_rfl))
 f20:=⟨Tryz.f217.name,by decide,Tryz.func217.trans (congrArg some (by kernel_rfl))⟩
 f21:=⟨Tryz.f218.name,by decide,Tryz.func218.trans (congrArg some (by kernel_rfl))⟩
 f22:=⟨Tryz.f219.name,by decide,Tryz.func219.trans (congrArg some (by kernel_rfl))⟩
 f23:=⟨Tryz.f220.name,by decide,Tryz.func220.trans (congrArg some (by kernel_rfl))⟩
 f24:=⟨Tryz.f221.name,by decide,Tryz.func221.trans (congrArg some (by kernel_rfl))⟩
 f25:=⟨Tryz.f222.name,by decide,Tryz.func222.trans (congrArg some (by kernel_rfl))⟩
 f26:=⟨Tryz.f223.name,by decide,Tryz.func223.trans (congrArg some (by kernel_rfl))⟩
 f27:=⟨Tryz.f224.name,by decide,Tryz.func224.trans (congrArg some (by kernel_rfl))⟩
 f28:=Tryz.func213.trans (congrArg some (by kernel_rfl))
 f29:=Tryz.func214.trans (congrArg some (by kernel_rfl))
 f46:=⟨Tryz.f248.name,by decide,Tryz.func248.trans (congrArg some (by kernel_rfl))⟩
 f47:=Tryz.func236.trans (congrArg some (by kernel_rfl))
 f48:=Tryz.func237.trans (congrArg some (by kernel_rfl))
 f49:=⟨Tryz.f249.name,by decide,Tryz.func249.trans (congrArg some (by kernel_rfl))⟩
 f50:=⟨Tryz.f250.name,by decide,Tryz.func250.trans (congrArg some (by kernel_rfl))⟩
 f57:=⟨Tryz.f258.name,by decide,Tryz.func258.trans (congrArg some (by kernel_rfl))⟩
 t0:=Tryz.underlying0
 a0:=Tryz.isAgg0
 z0:=Tryz.sizeOf0
 v0:=Tryz.zeroValue0
 t3:=Tryz.underlying3
 a3:=Tryz.isAgg3
 z3:=Tryz.sizeOf3
 v3:=Tryz.zeroValue3
 t4:=Tryz.underlying4
 a4:=Tryz.isAgg4
 z4:=Tryz.sizeOf4
 v4:=Tryz.zeroValue4
 t5:=Tryz.underlying5
 a5:=Tryz.isAgg5
 z5:=Tryz.sizeOf5
 v5:=Tryz.zeroValue5
 t9:=Tryz.underlying9
 a9:=Tryz.isAgg9
 z9:=Tryz.sizeOf9
 v9:=Tryz.zeroValue9
 t22:=Tryz.underlying22
 a22:=Tryz.isAgg22
 z22:=Tryz.sizeOf22
 v22:=Tryz.zeroValue22
 t25:=Tryz.underlying172
 a25:=Tryz.isAgg172
 z25:=Tryz.sizeOf172
 v25:=Tryz.zeroValue172
 t39:=Tryz.underlying200
 a39:=Tryz.isAgg200
 z39:=Tryz.sizeOf200
 v39:=Tryz.zeroValue200
 t45:=Tryz.underlying211
 a45:=Tryz.isAgg211
 z45:=Tryz.sizeOf211
 v45:=Tryz.zeroValue211
 t46:=Tryz.underlying212
 a46:=Tryz.isAgg212
 z46:=Tryz.sizeOf212
 v46:=Tryz.zeroValue212
 t50:=Tryz.underlying194
 a50:=Tryz.isAgg194
 z50:=Tryz.sizeOf194
 v50:=Tryz.zeroValue194
 t53:=Tryz.underlying218
 a53:=Tryz.isAgg218
 z53:=Tryz.sizeOf218
 v53:=Tryz.zeroValue218
 t55:=Tryz.underlying64
 a55:=Tryz.isAgg64
 z55:=Tryz.sizeOf64
 v55:=Tryz.zeroValue64
 t66:=Tryz.underlying232
 a66:=Tryz.isAgg232
 z66:=Tryz.sizeOf232
 v66:=Tryz.zeroValue232
 t70:=Tryz.underlying236
 a70:=Tryz.isAgg236
 z70:=Tryz.sizeOf236
 v70:=Tryz.zeroValue236
 t76:=Tryz.underlying247
 a76:=Tryz.isAgg247
 z76:=Tryz.sizeOf247
 v76:=Tryz.zeroValue247
 t77:=Tryz.underlying248
 a77:=Tryz.isAgg248
 z77:=Tryz.sizeOf248
 v77:=Tryz.zeroValue248 }
def Tryz.pdq200_ren : Go.Shelf.Ren:=⟨fun | 14=>200 | 20=>226 | 21=>227 | 22=>228 | 23=>229 | 24=>230 | 25=>231 | 26=>232 | 27=>233 | 46=>251 | 47=>236 | 48=>237 | 49=>252 | 50=>253 | 15=>193 | 57=>259 | 28=>213 | 29=>214 | n=>n,fun | 24=>66 | 22=>67 | 3=>3 | 25=>100 | 4=>4 | 0=>0 | 46=>212 | 45=>211 | 50=>194 | 66=>232 | 39=>200 | 55=>64 | 70=>236 | 76=>247 | 77=>248 | 53=>218 | 5=>5 | 9=>9 | n=>n,fun | n=>n⟩
theorem Tryz.pdq200 : Go.Proofs.SlLaysF0.n14 Tryz.prog Tryz.pdq200_ren:={
 mixed:=by kernel_rfl
 f14:=⟨Tryz.f200.name,by decide,Tryz.func200.trans (congrArg some (by kernel_rfl))⟩
 f15:=Tryz.func193.trans (congrArg some (by kernel_rfl))
 f20:=⟨Tryz.f226.name,by decide,Tryz.func226.trans (congrArg some (by kernel_rfl))⟩
 f21:=⟨Tryz.f227.name,by decide,Tryz.func227.trans (congrArg some (by kernel_rfl))⟩
 f22:=⟨Tryz.f228.name,by decide,Tryz.func228.trans (congrArg some (by kernel_rfl))⟩
 f23:=⟨Tryz.f229.name,by decide,Tryz.func229.trans (congrArg some (by kernel_rfl))⟩
 f24:=⟨Tryz.f230.name,by decide,Tryz.func230.trans (congrArg some (by kernel_rfl))⟩
 f25:=⟨Tryz.f231.name,by decide,Tryz.func231.trans (congrArg some (by kernel_rfl))⟩
 f26:=⟨Tryz.f232.name,by decide,Tryz.func232.trans (congrArg some (by kernel_rfl))⟩
 f27:=⟨Tryz.f233.name,by decide,Tryz.func233.trans (congrArg some (by kernel_rfl))⟩
 f28:=Tryz.func213.trans (congrArg some (by kernel_rfl))
 f29:=Tryz.func214.trans (congrArg some (by kernel_rfl))
 f46:=⟨Tryz.f251.name,by decide,Tryz.func251.trans (congrArg some (by kernel_rfl))⟩
 f47:=Tryz.func236.trans (congrArg some (by kernel_rfl))
 f48:=Tryz.func237.trans (congrArg some (by kernel_rfl))
 f49:=⟨Tryz.f252.name,by decide,Tryz.func252.trans (congrArg some (by kernel_rfl))⟩
 f50:=⟨Tryz.f253.name,by decide,Tryz.func253.trans (congrArg some (by kernel_rfl))⟩
 f57:=⟨Tryz.f259.name,by decide,Tryz.func259.trans (congrArg some (by kernel_rfl))⟩
 t0:=Tryz.underlying0
 a0:=Tryz.isAgg0
 z0:=Tryz.sizeOf0
 v0:=Tryz.zeroValue0
 t3:=Tryz.underlying3
 a3:=Tryz.isAgg3
 z3:=Tryz.sizeOf3
 v3:=Tryz.zeroValue3
 t4:=Tryz.underlying4
 a4:=Tryz.isAgg4
 z4:=Tryz.sizeOf4
 v4:=Tryz.zeroValue4
 t5:=Tryz.underlying5
 a5:=Tryz.isAgg5
 z5:=Tryz.sizeOf5
 v5:=Tryz.zeroValue5
 t9:=Tryz.underlying9
 a9:=Tryz.isAgg9
 z9:=Tryz.sizeOf9
 v9:=Tryz.zeroValue9
 t22:=Tryz.underlying67
 a22:=Tryz.isAgg67
 z22:=Tryz.sizeOf67
 v22:=Tryz.zeroValue67
 t25:=Tryz.underlying100
 a25:=Tryz.isAgg100
 z25:=Tryz.sizeOf100
 v25:=Tryz.zeroValue100
 t39:=Tryz.underlying200
 a39:=Tryz.isAgg200
 z39:=Tryz.sizeOf200
 v39:=Tryz.zeroValue200
 t45:=Tryz.underlying211
 a45:=Tryz.isAgg211
 z45:=Tryz.sizeOf211
 v45:=Tryz.zeroValue211
 t46:=Tryz.underlying212
 a46:=Tryz.isAgg212
 z46:=Tryz.sizeOf212
 v46:=Tryz.zeroValue212
 t50:=Tryz.underlying194
 a50:=Tryz.isAgg194
 z50:=Tryz.sizeOf194
 v50:=Tryz.zeroValue194
 t53:=Tryz.underlying218
 a53:=Tryz.isAgg218
 z53:=Tryz.sizeOf218
 v53:=Tryz.zeroValue218
 t55:=Tryz.underlying64
 a55:=Tryz.isAgg64
 z55:=Tryz.sizeOf64
 v55:=Tryz.zeroValue64
 t66:=Tryz.underlying232
 a66:=Tryz.isAgg232
 z66:=Tryz.sizeOf232
 v66:=Tryz.zeroValue232
 t70:=Tryz.underlying236
 a70:=Tryz.isAgg236
 z70:=Tryz.sizeOf236
 v70:=Tryz.zeroValue236
 t76:=Tryz.underlying247
 a76:=Tryz.isAgg247
 z76:=Tryz.sizeOf247
 v76:=Tryz.zeroValue247
 t77:=Tryz.underlying248
 a77:=Tryz.isAgg248
 z77:=Tryz.sizeOf248
 v77:=Tryz.zeroValue248 }
def Tryz.pdq216_ren : Go.Shelf.Ren:=⟨fun | 14=>216 | 20=>240 | 21=>241 | 22=>242 | 23=>243 | 24=>244 | 25=>245 | 26=>246 | 27=>247 | 46=>255 | 47=>236 | 48=>237 | 49=>256 | 50=>257 | 15=>193 | 57=>260 | 28=>213 | 29=>214 | n=>n,fun | 24=>78 | 22=>79 | 3=>3 | 25=>204 | 4=>4 | 0=>0 | 46=>212 | 45=>211 | 50=>194 | 66=>232 | 39=>200 | 55=>64 | 70=>236 | 76=>247 | 77=>248 | 53=>218 | 5=>5 | 9=>9 | n=>n,fun | n=>n⟩
theorem Tryz.pdq216 : Go.Proofs.SlLaysF0.n14 Tryz.prog Tryz.pdq216_ren:={
 mixed:=by kernel_rfl
 f14:=⟨Tryz.f216.name,by decide,Tryz.func216.trans (congrArg some (by kernel_rfl))⟩
 f15:=Tryz.func193.trans (congrArg some (by kernel_rfl))
 f20:=⟨Tryz.f240.name,by decide,Tryz.func240.trans (congrArg some (by kernel_rfl))⟩
 f21:=⟨Tryz.f241.name,by decide,Tryz.func241.trans (congrArg some (by kernel_rfl))⟩
 f22:=⟨Tryz.f242.name,by decide,Tryz.func242.trans (congrArg some (by kernel_rfl))⟩
 f23:=⟨Tryz.f243.name,by decide,Tryz.func243.trans (congrArg some (by kernel_rfl))⟩
 f24:=⟨Tryz.f244.name,by decide,Tryz.func244.trans (congrArg some (by kernel_rfl))⟩
 f25:=⟨Tryz.f245.name,by decide,Tryz.func245.trans (congrArg some (by kernel_rfl))⟩
 f26:=⟨Tryz.f246.name,by decide,Tryz.func246.trans (congrArg some (by kernel_rfl))⟩
 f27:=⟨Tryz.f247.name,by decide,Tryz.func247.trans (congrArg some (by kernel_rfl))⟩
 f28:=Tryz.func213.trans (congrArg some (by kernel_rfl))
 f29:=Tryz.func214.trans (congrArg some (by kernel_rfl))
 f46:=⟨Tryz.f255.name,by decide,Tryz.func255.trans (congrArg some (by kernel_rfl))⟩
 f47:=Tryz.func236.trans (congrArg some (by kernel_rfl))
 f48:=Tryz.func237.trans (congrArg some (by kernel_rfl))
 f49:=⟨Tryz.f256.name,by decide,Tryz.func256.trans (congrArg some (by kernel_rfl))⟩
 f50:=⟨Tryz.f257.name,by decide,Tryz.func257.trans (congrArg some (by kernel_rfl))⟩
 f57:=⟨Tryz.f260.name,by decide,Tryz.func260.trans (congrArg some (by kernel_rfl))⟩
 t0:=Tryz.underlying0
 a0:=Tryz.isAgg0
 z0:=Tryz.sizeOf0
 v0:=Tryz.zeroValue0
 t3:=Tryz.underlying3
 a3:=Tryz.isAgg3
 z3:=Tryz.sizeOf3
 v3:=Tryz.zeroValue3
 t4:=Tryz.underlying4
 a4:=Tryz.isAgg4
 z4:=Tryz.sizeOf4
 v4:=Tryz.zeroValue4
 t5:=Tryz.underlying5
 a5:=Tryz.isAgg5
 z5:=Tryz.sizeOf5
 v5:=Tryz.zeroValue5
 t9:=Tryz.underlying9
 a9:=Tryz.isAgg9
 z9:=Tryz.sizeOf9
 v9:=Tryz.zeroValue9
 t22:=Tryz.underlying79
 a22:=Tryz.isAgg79
 z22:=Tryz.sizeOf79
 v22:=Tryz.zeroValue79
 t25:=Tryz.underlying204
 a25:=Tryz.isAgg204
 z25:=Tryz.sizeOf204
 v25:=Tryz.zeroValue204
 t39:=Tryz.underlying200
 a39:=Tryz.isAgg200
 z39:=Tryz.sizeOf200
 v39:=Tryz.zeroValue200
 t45:=Tryz.underlying211
 a45:=Tryz.isAgg211
 z45:=Tryz.sizeOf211
 v45:=Tryz.zeroValue211
 t46:=Tryz.underlying212
 a46:=Tryz.isAgg212
 z46:=Tryz.sizeOf212
 v46:=Tryz.zeroValue212
 t50:=Tryz.underlying194
 a50:=Tryz.isAgg194
 z50:=Tryz.sizeOf194
 v50:=Tryz.zeroValue194
 t53:=Tryz.underlying218
 a53:=Tryz.isAgg218
 z53:=Tryz.sizeOf218
 v53:=Tryz.zeroValue218
 t55:=Tryz.underlying64
 a55:=Tryz.isAgg64
 z55:=Tryz.sizeOf64
 v55:=Tryz.zeroValue64
 t66:=Tryz.underlying232
 a66:=Tryz.isAgg232
 z66:=Tryz.sizeOf232
 v66:=Tryz.zeroValue232
 t70:=Tryz.underlying236
 a70:=Tryz.isAgg236
 z70:=Tryz.sizeOf236
 v70:=Tryz.zeroValue236
 t76:=Tryz.underlying247
 a76:=Tryz.isAgg247
 z76:=Tryz.sizeOf247
 v76:=Tryz.zeroValue247
 t77:=Tryz.underlying248
 a77:=Tryz.isAgg248
 z77:=Tryz.sizeOf248
 v77:=Tryz.zeroValue248 }
def Tryz.bits193_ren : Go.Shelf.Ren:=⟨fun | 15=>193 | 28=>213 | 29=>214 | n=>n,fun | 39=>200 | 3=>3 | 53=>218 | 55=>64 | 4=>4 | 5=>5 | 9=>9 | n=>n,fun | n=>n⟩
theorem Tryz.bits193 : Go.Proofs.SlLaysF0.n15 Tryz.prog Tryz.bits193_ren:={
 mixed:=by kernel_rfl
 f15:=Tryz.func193.trans (congrArg some (by kernel_rfl))
 f28:=Tryz.func213.trans (congrArg some (by kernel_rfl))
 f29:=Tryz.func214.trans (congrArg some (by kernel_rfl))
 t3:=Tryz.underlying3
 a3:=Tryz.isAgg3
 z3:=Tryz.sizeOf3
 v3:=Tryz.zeroValue3
 t4:=Tryz.underlying4
 a4:=Tryz.isAgg4
 z4:=Tryz.sizeOf4
 v4:=Tryz.zeroValue4
 t5:=Tryz.underlying5
 a5:=Tryz.isAgg5
 z5:=Tryz.sizeOf5
 v5:=Tryz.zeroValue5
 t9:=Tryz.underlying9
 a9:=Tryz.isAgg9
 z9:=Tryz.sizeOf9
 v9:=Tryz.zeroValue9
 t39:=Tryz.underlying200
 a39:=Tryz.isAgg200
 z39:=Tryz.sizeOf200
 v39:=Tryz.zeroValue200
 t53:=Tryz.underlying218
 a53:=Tryz.isAgg218
 z53:=Tryz.sizeOf218
 v53:=Tryz.zeroValue218
 t55:=Tryz.underlying64
 a55:=Tryz.isAgg64
 z55:=Tryz.sizeOf64
 v55:=Tryz.zeroValue64 }
end Go.Proofs

namespace Go.Ep
open Go.Shelf Go.RowKit Go.Lib Go.Sort Go.Proofs

theorem SortLaw.of {α:Type} [Inhabited α] {P:Program} {f g:FuncId} {k:Nat} {enc:α → List Value} {lt:α → α → Bool} {cf:α → α → Int} (hO:SWO (ltOf cf)) (hlt:∀ x y,ltOf cf x y = lt x y) (hk:∀ x,(enc x).length = k)
  (hnil:∀ w:World,Calls P f #[.slice none 0 0,.func (.func g) #[] #[]] w fun e w'=>e = .returned (.tuple #[]) ∧ Go.RowKit.Below w.heap.size w w')
  (hrow:∀ (blk off cap:Nat) (d:Array α) (w:World),HoldsK enc k w blk off d → blk < w.heap.size → d.size < 4611686018427387904 →
   Calls P f #[.slice (some ⟨blk,off,none⟩) d.size cap,.func (.func g) #[] #[]] w fun e w'=>e = .returned (.tuple #[]) ∧ ∃ n os,w' = sortWorldK enc k w blk off n (pdq (ltOf cf) d 0 d.size (Lib.bitLen d.size) true true) os):SortLaw P f g k enc lt:=by
 refine ⟨hnil,fun w blk cap l T cur hh hlc hcs hlen hcells=>?_⟩;have hblk:blk < w.heap.size:=(Array.getElem?_eq_some_iff.1 hh).1;have hH:HoldsK enc k w blk 0 l.toArray:=by
  intro j hj;rw [size_flatK] at hj;have hj':j < l.length * k:=by simpa using hj
  obtain ⟨hk0,h1,h2,h3⟩:=XK hj'
  constructor
  ·rw [Nat.zero_add,zg hh];show _ = some ((flatK enc k l.toArray)[j]!);rw [get_flatK _ _ _ _ hj];have hx:l[j / k]? = some l[j / k]:=List.getElem?_eq_getElem h1;have hlk:(enc l[j / k]).length = k:=hk _;have hu:(enc l[j / k])[j % k]? = some ((enc l[j / k])[j % k]'(by omega)):=List.getElem?_eq_getElem (by omega);have:=hcells (j / k) _ (j % k) _ hx hu;rw [h3] at this;rw [this];have e1:(l.toArray)[j / k]! = l[j / k]:=by simp [h1]
   rw [e1];simp [hu]
  ·simp [World.frozen?,hh]
 have hd:l.toArray.size = l.length:=by simp
 have hcall:=hrow blk 0 cap l.toArray w hH hblk (by simpa using hlen);rw [hd] at hcall;refine hcall.mono fun e w' ⟨he,n,os,hw⟩=>⟨he,?_⟩
 have hp:=pdq_sorts (ltOf cf) hO l.toArray 0 l.toArray.size (Lib.bitLen l.toArray.size) true true (Nat.zero_le _) (Nat.le_refl _) (Or.inl rfl);rw [hd] at hp
 generalize pdq (ltOf cf) l.toArray 0 l.length (Lib.bitLen l.length) true true = d' at hp hw
 obtain ⟨⟨hsz,_,hperm⟩,hsort⟩:=hp;have hsz':d'.size = l.length:=by simpa using hsz
 have hp':d'.toList.Perm l:=by
  have e1:(d'.extract 0 l.length).toList = d'.toList:=by rw [← hsz'];simp
  have e2:(l.toArray.extract 0 l.length).toList = l:=by simp
  rw [e1,e2] at hperm;exact hperm
 have hmod:∀ b,b < w.heap.size → (sortWorldK enc k w blk 0 n d' os).heap[b]? = if blk = b then (w.heap[b]?).map (onCells (putCells id 0 (flatK enc k d'))) else w.heap[b]?:=by
  intro b hb;have hb2:b < (putRowK enc k (Sort.ahead w n) blk 0 d').heap.size:=by simpa [putRowK,Sort.ahead] using hb
  show (grow (putRowK enc k (Sort.ahead w n) blk 0 d') os).heap[b]? = _;rw [Sort.heap_grow_old _ _ hb2];show ((w.heap.modify blk (onCells (putCells id 0 (flatK enc k d')))))[b]? = _;rw [Array.getElem?_modify]
 subst hw;refine ⟨d'.toList,(putCells id 0 (flatK enc k d') cur.toArray).toList,hp',?_,?_,?_,?_,rfl,rfl,rfl,?_,?_⟩
 ·rw [List.pairwise_iff_getElem];intro i j hi hj hij;have:=hsort i j (Nat.zero_le _) hij (by simpa [hsz'] using hj);rw [hlt] at this;have hi':i < d'.size:=by simpa using hi
  have hj':j < d'.size:=by simpa using hj
  simpa [hi',hj'] using this
 ·rw [hmod blk hblk,if_pos rfl,hh];simp [onCells]
 ·simp [putCells]
 ·intro i x j u hi hu;have hi':i < l.length:=by rw [← hsz'];have:=(List.getElem?_eq_some_iff.1 hi).1;simpa using this
  have hj:j < k:=by rw [← hk x];exact (List.getElem?_eq_some_iff.1 hu).1
  have hlt2:i * k + j < l.length * k:=ZV hi' hj;have hcl:l.length * k ≤ cur.length:=by rw [hcs];exact Nat.mul_le_mul_right k hlc
  have hin:i * k + j < d'.size * k:=by rw [hsz'];exact hlt2
  have hget:(flatK enc k d')[i * k + j]! = u:=by
   rw [get_flatK _ _ _ _ hin];have hk0:0 < k:=by omega
   have e1:(i * k + j) / k = i:=by rw [Nat.mul_comm,Nat.mul_add_div hk0,Nat.div_eq_of_lt hj];omega
   have e2:(i * k + j) % k = j:=by rw [Nat.mul_comm,Nat.mul_add_mod,Nat.mod_eq_of_lt hj]
   rw [e1,e2];have e3:d'[i]! = x:=by
    obtain ⟨h1,h2⟩:=List.getElem?_eq_some_iff.1 hi;have h1':i < d'.size:=by simpa using h1
    rw [getElem!_pos d' i h1'];simpa using h2
   rw [e3];simp [hu]
  have hc2:i * k + j < cur.length:=by omega
  simp only [putCells,Array.toList_mapIdx,List.getElem?_mapIdx];rw [List.getElem?_eq_getElem hc2];simp only [Option.map_some,id];rw [if_pos ⟨Nat.zero_le _,by rw [size_flatK];omega⟩,Nat.sub_zero,hget]
 ·show w.heap.size ≤ (grow (putRowK enc k (Sort.ahead w n) blk 0 d') os).heap.size;simp [grow,putRowK,Sort.ahead]
 ·intro b hb hne;rw [hmod b hb,if_neg (Ne.symm hne)]
end Go.Ep

namespace Go.Proofs
set_option linter.unusedSimpArgs false
set_option linter.unusedVariables false
open Go.Shelf Go.RowKit Go.Lib Go.Sort Go.Ep
theorem yua (a:Int) (W:World):Calls Tryz.prog 162 #[.int .u16 a] W fun e w'=>e = .returned (.bool false) ∧ w' = W:=by
 go_enter Tryz.func162,Tryz.ntmps162
 go_wp2
 go_ret
 exact ⟨by simp,rfl⟩
theorem yva (a b:Int) (W:World):Calls Tryz.prog 120 #[.int .u16 a,.int .u16 b] W fun e w'=>e = .returned (.int .i64 (Lib.compareInt a b)) ∧ w' = W:=by
 unfold Lib.compareInt
 by_cases h1:a < b
 ·go_enter Tryz.func120,Tryz.ntmps120
  go_wp2_with (go_at_call 162;refine (yua _ _).mono ?_;rintro e w' ⟨rfl,rfl⟩)
  go_ret
  exact ⟨by simp [h1],rfl⟩
 ·by_cases h2:b < a
  ·go_enter Tryz.func120,Tryz.ntmps120
   go_wp2_with (go_at_call 162;refine (yua _ _).mono ?_;rintro e w' ⟨rfl,rfl⟩)
   go_ret
   exact ⟨by simp [h1,h2],rfl⟩
  ·go_enter Tryz.func120,Tryz.ntmps120
   go_wp2_with (go_at_call 162;refine (yua _ _).mono ?_;rintro e w' ⟨rfl,rfl⟩)
   go_ret
   exact ⟨by simp [h1,h2],rfl⟩
theorem ywa (a:Int) (W:World):Calls Tryz.prog 163 #[.int .u64 a] W fun e w'=>e = .returned (.bool false) ∧ w' = W:=by
 go_enter Tryz.func163,Tryz.ntmps163
 go_wp2
 go_ret
 exact ⟨by simp,rfl⟩
theorem yxa (a b:Int) (W:World):Calls Tryz.prog 121 #[.int .u64 a,.int .u64 b] W fun e w'=>e = .returned (.int .i64 (Lib.compareInt a b)) ∧ w' = W:=by
 unfold Lib.compareInt
 by_cases h1:a < b
 ·go_enter Tryz.func121,Tryz.ntmps121
  go_wp2_with (go_at_call 163;refine (ywa _ _).mono ?_;rintro e w' ⟨rfl,rfl⟩)
  go_ret
  exact ⟨by simp [h1],rfl⟩
 ·by_cases h2:b < a
  ·go_enter Tryz.func121,Tryz.ntmps121
   go_wp2_with (go_at_call 163;refine (ywa _ _).mono ?_;rintro e w' ⟨rfl,rfl⟩)
   go_ret
   exact ⟨by simp [h1,h2],rfl⟩
  ·go_enter Tryz.func121,Tryz.ntmps121
   go_wp2_with (go_at_call 163;refine (ywa _ _).mono ?_;rintro e w' ⟨rfl,rfl⟩)
   go_ret
   exact ⟨by simp [h1,h2],rfl⟩
theorem yya (W:World) (a b:Array Obj) (q:Nat):grow ((grow W a).drewN q) b = grow (W.drewN q) (a ++ b):=by
 show grow (grow (W.drewN q) a) b = _;rw [grow_grow]
def Vq (a b c d:Int):Int:=if Lib.compareInt a c ≠ 0 then Lib.compareInt a c else Lib.compareInt b d
theorem z2a (a b c d:Int) (W:World):Calls Tryz.prog 56 #[.agg #[.int .u16 a,.int .u64 b],.agg #[.int .u16 c,.int .u64 d]] W fun e w'=>e = .returned (.int .i64 (Vq a b c d)) ∧ ∃ q os',w' = grow (W.drewN q) os':=by
 have c1:=fun W'=>yva a c W'
 have c2:=fun W'=>yxa b d W'
 unfold Vq
 generalize Lib.compareInt a c = r1 at c1 ⊢
 generalize Lib.compareInt b d = r2 at c2 ⊢
 by_cases h:r1 = 0
 ·subst h
  go_enter Tryz.func56,Tryz.ntmps56
  go_wp2_with (first | (go_at_call 120;refine (c1 _).mono ?_;rintro e w' ⟨rfl,rfl⟩) | (go_at_call 121;refine (c2 _).mono ?_;rintro e w' ⟨rfl,rfl⟩))
  go_ret
  exact ⟨by simp,0,_,by rw [alloc_eq_grow,alloc_eq_grow,grow_grow];rfl⟩
 ·go_enter Tryz.func56,Tryz.ntmps56
  go_wp2_with (first | (go_at_call 120;refine (c1 _).mono ?_;rintro e w' ⟨rfl,rfl⟩) | (go_at_call 121;refine (c2 _).mono ?_;rintro e w' ⟨rfl,rfl⟩))
  go_ret
  exact ⟨by simp [h],0,_,by rw [alloc_eq_grow,alloc_eq_grow,grow_grow];rfl⟩
structure RawTEvent where
 dot_dev_:Int
 dot_n_:Int
 c2:Value
 h2:c2.oneCell' = true
 c3:Value
 h3:c3.oneCell' = true
 c4:Value
 h4:c4.oneCell' = true
 c5:Value
 h5:c5.oneCell' = true
 c6:Value
 h6:c6.oneCell' = true
def RawTEvent.v (r:RawTEvent):List Value:=[.int .u16 r.dot_dev_,.int .u64 r.dot_n_,r.c2,r.c3,r.c4,r.c5,r.c6]
theorem RawTEvent.v1 (r:RawTEvent):∀ u ∈ r.v,u.oneCell' = true:=by
 intro u hu;simp only [RawTEvent.v,List.mem_cons,List.not_mem_nil,or_false] at hu;rcases hu with rfl | rfl | rfl | rfl | rfl | rfl | rfl
 ·rfl
 ·rfl
 ·exact r.h2
 ·exact r.h3
 ·exact r.h4
 ·exact r.h5
 ·exact r.h6
def RawTEvent.R (x:TEvent) (r:RawTEvent):Prop:=r.dot_dev_ = x.dot.dev ∧ r.dot_n_ = x.dot.n
theorem RawTEvent.raw (w:World) (S:Nat → Prop) (x:TEvent) (us:List Value) (hl:us.length = 7) (h:∀ (j:Nat) (d:DV) (u:Value),(TEvent.e x)[j]? = some d → us[j]? = some u → DRd w S d u):∃ r:RawTEvent,r.v = us ∧ RawTEvent.R x r:=by
 match us,hl with
 | [u0,u1,u2,u3,u4,u5,u6],_=>
  refine ⟨⟨x.dot.dev,x.dot.n,u2,(h 2 _ u2 rfl rfl).one,u3,(h 3 _ u3 rfl rfl).one,u4,(h 4 _ u4 rfl rfl).one,u5,(h 5 _ u5 rfl rfl).one,u6,(h 6 _ u6 rfl rfl).one⟩,?_,⟨rfl,rfl⟩⟩;have e0:=h 0 _ u0 rfl rfl
  cases e0
  have e1:=h 1 _ u1 rfl rfl
  cases e1
  rfl
def Jz (x y:RawTEvent):Int:=Vq x.dot_dev_ x.dot_n_ y.dot_dev_ y.dot_n_
theorem yza (x y:RawTEvent) (W:World):Calls Tryz.prog 153 #[.agg #[.int .u16 x.dot_dev_,.int .u64 x.dot_n_,x.c2,x.c3,x.c4,x.c5,x.c6],.agg #[.int .u16 y.dot_dev_,.int .u64 y.dot_n_,y.c2,y.c3,y.c4,y.c5,y.c6]] W fun e w'=>e = .returned (.int .i64 (Jz x y)) ∧ ∃ q os',w' = grow (W.drewN q) os':=by
 have c1:=fun W'=>z2a x.dot_dev_ x.dot_n_ y.dot_dev_ y.dot_n_ W'
 unfold Jz
 generalize Vq x.dot_dev_ x.dot_n_ y.dot_dev_ y.dot_n_ = r1 at c1 ⊢
 go_enter Tryz.func153,Tryz.ntmps153
 go_wp2_with (go_at_call 56;refine (c1 _).mono ?_;rintro e w' ⟨rfl,q,os',rfl⟩)
 go_ret
 exact ⟨rfl,q,_,by rw [alloc_eq_grow,alloc_eq_grow,grow_grow,yya]⟩
theorem jh (x y:RawTEvent):ltOf Jz x y = (fun x y:RawTEvent=>decide (x.dot_dev_ < y.dot_dev_) || (decide (x.dot_dev_ = y.dot_dev_) && decide (x.dot_n_ < y.dot_n_))) x y:=by
 unfold ltOf Jz Vq Lib.compareInt ;rw [Bool.eq_iff_iff];simp only [decide_eq_true_eq,Bool.or_eq_true,Bool.and_eq_true]
 split <;> (repeat' split) <;> omega
theorem zOa : SWO (ltOf Jz) where
 irrefl x:=by rw [jh];simp []
 trans x y z h1 h2:=by rw [jh] at *;simp [] at *;omega
 ntrans x y z h1 h2:=by rw [jh] at *;simp [] at *;omega
instance inhcf152 : Inhabited RawTEvent:=⟨⟨0,0,.int .u64 0,rfl,.int .u64 0,rfl,.int .u64 0,rfl,.int .u64 0,rfl,.int .u64 0,rfl⟩⟩
theorem y0a (blk off size:Nat) (w:World):CmpLays Tryz.prog 153 #[] RawTEvent.v 7 Jz blk off size w:=fun _ _ _ _ x y=>yza x y _
set_option maxHeartbeats 2000000 in
set_option maxRecDepth 100000 in
theorem z3a (blk off cap:Nat) (d:Array RawTEvent) (w:World) (hH:HoldsK RawTEvent.v 7 w blk off d) (hblk:blk < w.heap.size) (hsz:d.size < 4611686018427387904) :
  Calls Tryz.prog 152 #[.slice (some ⟨blk,off,none⟩) d.size cap,.func (.func 153) #[] #[]] w fun e w'=>e = .returned (.tuple #[]) ∧ ∃ n os,w' = sortWorldK RawTEvent.v 7 w blk off n (pdq (ltOf Jz) d 0 d.size (Lib.bitLen d.size) true true) os:=by
 have eg:∀ args w,(callFunc 153 args).run Tryz.prog w = .ok (.enter 153 args) w:=Tryz.call153;have e14:=Tryz.call192;have e15:=Tryz.call193;have hlim:Lib.bitLen d.size < 4611686018427387904:=Nat.lt_of_le_of_lt (Lib.bitLen_le d.size 62 (by omega) (by omega)) (by omega);have hp:=AnyQ.pdqsortCmpFunc_all Tryz.pdq192 7 Tryz.isAgg69 Tryz.sizeOf69 RawTEvent.v Jz 153 #[] zOa blk off cap d w eg (y0a blk off d.size w) ⟨fun _=>rfl,RawTEvent.v1,hH,hblk⟩ (d.size + 1) 0 d.size (Lib.bitLen d.size) d w (by omega) rfl (SWK.start hH) (Nat.zero_le _) (Nat.le_refl _) hsz hlim (Or.inl rfl)
 change Calls Tryz.prog 192 _ _ _ at hp
 have hl:Calls Tryz.prog 193 #[.int .u64 (d.size:Int)] w fun e w'=>e = .returned (.int .i64 (Lib.bitLen d.size:Nat)) ∧ w' = w:=by
  have h:=Any.bits_Len (SlLaysF0.n15.bits Tryz.bits193) (d.size:Int) w (by omega) (by omega)
  rwa [Int.toNat_natCast] at h
 have wr:IntKind.u64.wrap (d.size:Int) = d.size:=by simp [IntKind.wrap,IntKind.bits,IntKind.signed];omega
 clear hH
 go_enter Tryz.func152,Tryz.ntmps152
 go_wp2_with (first | (go_at_call 193;refine hl.mono ?_;rintro e w' ⟨rfl,rfl⟩) | (go_at_call 192;refine hp.mono ?_;rintro e w' ⟨rfl,n,os,rfl⟩))
 go_end0
 exact ⟨rfl,n,os,rfl⟩
theorem QJ (w:World):Calls Tryz.prog 152 #[.slice none 0 0,.func (.func 153) #[] #[]] w fun e w'=>e = .returned (.tuple #[]) ∧ Go.RowKit.Below w.heap.size w w':=by
 have e14:=Tryz.call192;have e15:=Tryz.call193;have hp:=fun lim W=>AnyF.pdqsortCmpFunc_none Tryz.pdq192 none 0 lim (.func (.func 153) #[] #[]) W
 have hl:∀ W,Calls Tryz.prog 193 #[.int .u64 0] W fun e w'=>e = .returned (.int .i64 (Lib.bitLen 0:Nat)) ∧ w' = W:=fun W=>by
  have h:=Any.bits_Len (SlLaysF0.n15.bits Tryz.bits193) 0 W (by omega) (by omega);exact h
 go_enter Tryz.func152,Tryz.ntmps152
 go_wp2_with (first | (go_at_call 193;refine (hl _).mono ?_;rintro e w' ⟨rfl,rfl⟩) | (go_at_call 192;refine (hp _ _).mono ?_;rintro e w' ⟨rfl,rfl⟩))
 go_end0
 exact ⟨rfl,Go.RowKit.Below.refl _ _⟩
theorem z4a : SortLaw Tryz.prog 152 153 7 RawTEvent.v (fun x y:RawTEvent=>decide (x.dot_dev_ < y.dot_dev_) || (decide (x.dot_dev_ = y.dot_dev_) && decide (x.dot_n_ < y.dot_n_))):=SortLaw.of zOa jh (fun _=>rfl) QJ (fun blk off cap d w hH hblk hsz=>z3a blk off cap d w hH hblk hsz)
theorem rlt152 (x y:TEvent) (r r':RawTEvent) (h1:RawTEvent.R x r) (h2:RawTEvent.R y r'):((fun x y:RawTEvent=>decide (x.dot_dev_ < y.dot_dev_) || (decide (x.dot_dev_ = y.dot_dev_) && decide (x.dot_n_ < y.dot_n_)))) r r' = Zb x y:=by simp only [RawTEvent.R] at h1 h2;simp [h1,h2,Zb]
structure RawTPart where
 dev_:Int
 c1:Value
 h1:c1.oneCell' = true
def RawTPart.v (r:RawTPart):List Value:=[.int .u16 r.dev_,r.c1]
theorem RawTPart.v1 (r:RawTPart):∀ u ∈ r.v,u.oneCell' = true:=by
 intro u hu;simp only [RawTPart.v,List.mem_cons,List.not_mem_nil,or_false] at hu;rcases hu with rfl | rfl
 ·rfl
 ·exact r.h1
def RawTPart.R (x:TPart) (r:RawTPart):Prop:=r.dev_ = x.dev
theorem RawTPart.raw (w:World) (S:Nat → Prop) (x:TPart) (us:List Value) (hl:us.length = 2) (h:∀ (j:Nat) (d:DV) (u:Value),(TPart.e x)[j]? = some d → us[j]? = some u → DRd w S d u):∃ r:RawTPart,r.v = us ∧ RawTPart.R x r:=by
 match us,hl with
 | [u0,u1],_=>
  refine ⟨⟨x.dev,u1,(h 1 _ u1 rfl rfl).one⟩,?_,rfl⟩;have e0:=h 0 _ u0 rfl rfl
  cases e0
  rfl
def qA (x y:RawTPart):Int:=Lib.compareInt x.dev_ y.dev_
theorem y1a (x y:RawTPart) (W:World):Calls Tryz.prog 160 #[.agg #[.int .u16 x.dev_,x.c1],.agg #[.int .u16 y.dev_,y.c1]] W fun e w'=>e = .returned (.int .i64 (qA x y)) ∧ ∃ q os',w' = grow (W.drewN q) os':=by
 have c1:=fun W'=>yva x.dev_ y.dev_ W'
 unfold qA
 generalize Lib.compareInt x.dev_ y.dev_ = r1 at c1 ⊢
 go_enter Tryz.func160,Tryz.ntmps160
 go_wp2_with (go_at_call 120;refine (c1 _).mono ?_;rintro e w' ⟨rfl,rfl⟩)
 go_ret
 exact ⟨rfl,0,_,by rw [alloc_eq_grow,alloc_eq_grow,grow_grow];rfl⟩
theorem ji (x y:RawTPart):ltOf qA x y = (fun x y:RawTPart=>decide (x.dev_ < y.dev_)) x y:=by
 unfold ltOf qA Lib.compareInt ;rw [Bool.eq_iff_iff];simp only [decide_eq_true_eq,Bool.or_eq_true,Bool.and_eq_true]
 split <;> (repeat' split) <;> omega
theorem zPa : SWO (ltOf qA) where
 irrefl x:=by rw [ji];simp []
 trans x y z h1 h2:=by rw [ji] at *;simp [] at *;omega
 ntrans x y z h1 h2:=by rw [ji] at *;simp [] at *;omega
instance inhcf159 : Inhabited RawTPart:=⟨⟨0,.int .u64 0,rfl⟩⟩
theorem y2a (blk off size:Nat) (w:World):CmpLays Tryz.prog 160 #[] RawTPart.v 2 qA blk off size w:=fun _ _ _ _ x y=>y1a x y _
set_option maxHeartbeats 2000000 in
set_option maxRecDepth 100000 in
theorem z5a (blk off cap:Nat) (d:Array RawTPart) (w:World) (hH:HoldsK RawTPart.v 2 w blk off d) (hblk:blk < w.heap.size) (hsz:d.size < 4611686018427387904) :
  Calls Tryz.prog 159 #[.slice (some ⟨blk,off,none⟩) d.size cap,.func (.func 160) #[] #[]] w fun e w'=>e = .returned (.tuple #[]) ∧ ∃ n os,w' = sortWorldK RawTPart.v 2 w blk off n (pdq (ltOf qA) d 0 d.size (Lib.bitLen d.size) true true) os:=by
 have eg:∀ args w,(callFunc 160 args).run Tryz.prog w = .ok (.enter 160 args) w:=Tryz.call160;have e14:=Tryz.call198;have e15:=Tryz.call193;have hlim:Lib.bitLen d.size < 4611686018427387904:=Nat.lt_of_le_of_lt (Lib.bitLen_le d.size 62 (by omega) (by omega)) (by omega);have hp:=AnyQ.pdqsortCmpFunc_all Tryz.pdq198 2 Tryz.isAgg81 Tryz.sizeOf81 RawTPart.v qA 160 #[] zPa blk off cap d w eg (y2a blk off d.size w) ⟨fun _=>rfl,RawTPart.v1,hH,hblk⟩ (d.size + 1) 0 d.size (Lib.bitLen d.size) d w (by omega) rfl (SWK.start hH) (Nat.zero_le _) (Nat.le_refl _) hsz hlim (Or.inl rfl)
 change Calls Tryz.prog 198 _ _ _ at hp
 have hl:Calls Tryz.prog 193 #[.int .u64 (d.size:Int)] w fun e w'=>e = .returned (.int .i64 (Lib.bitLen d.size:Nat)) ∧ w' = w:=by
  have h:=Any.bits_Len (SlLaysF0.n15.bits Tryz.bits193) (d.size:Int) w (by omega) (by omega)
  rwa [Int.toNat_natCast] at h
 have wr:IntKind.u64.wrap (d.size:Int) = d.size:=by simp [IntKind.wrap,IntKind.bits,IntKind.signed];omega
 clear hH
 go_enter Tryz.func159,Tryz.ntmps159
 go_wp2_with (first | (go_at_call 193;refine hl.mono ?_;rintro e w' ⟨rfl,rfl⟩) | (go_at_call 198;refine hp.mono ?_;rintro e w' ⟨rfl,n,os,rfl⟩))
 go_end0
 exact ⟨rfl,n,os,rfl⟩
theorem QK (w:World):Calls Tryz.prog 159 #[.slice none 0 0,.func (.func 160) #[] #[]] w fun e w'=>e = .returned (.tuple #[]) ∧ Go.RowKit.Below w.heap.size w w':=by
 have e14:=Tryz.call198;have e15:=Tryz.call193;have hp:=fun lim W=>AnyF.pdqsortCmpFunc_none Tryz.pdq198 none 0 lim (.func (.func 160) #[] #[]) W
 have hl:∀ W,Calls Tryz.prog 193 #[.int .u64 0] W fun e w'=>e = .returned (.int .i64 (Lib.bitLen 0:Nat)) ∧ w' = W:=fun W=>by
  have h:=Any.bits_Len (SlLaysF0.n15.bits Tryz.bits193) 0 W (by omega) (by omega);exact h
 go_enter Tryz.func159,Tryz.ntmps159
 go_wp2_with (first | (go_at_call 193;refine (hl _).mono ?_;rintro e w' ⟨rfl,rfl⟩) | (go_at_call 198;refine (hp _ _).mono ?_;rintro e w' ⟨rfl,rfl⟩))
 go_end0
 exact ⟨rfl,Go.RowKit.Below.refl _ _⟩
theorem z6a : SortLaw Tryz.prog 159 160 2 RawTPart.v (fun x y:RawTPart=>decide (x.dev_ < y.dev_)):=SortLaw.of zPa ji (fun _=>rfl) QK (fun blk off cap d w hH hblk hsz=>z5a blk off cap d w hH hblk hsz)
theorem rlt159 (x y:TPart) (r r':RawTPart) (h1:RawTPart.R x r) (h2:RawTPart.R y r'):((fun x y:RawTPart=>decide (x.dev_ < y.dev_))) r r' = Ur x y:=by simp only [RawTPart.R] at h1 h2;simp [h1,h2,Ur]
def qB (x y:TDot):Int:=if Lib.compareInt x.dev y.dev ≠ 0 then Lib.compareInt x.dev y.dev else Lib.compareInt x.n y.n
theorem y3a (x y:TDot) (W:World):Calls Tryz.prog 56 #[.agg #[.int .u16 x.dev,.int .u64 x.n],.agg #[.int .u16 y.dev,.int .u64 y.n]] W fun e w'=>e = .returned (.int .i64 (qB x y)) ∧ ∃ q os',w' = grow (W.drewN q) os':=by
 have c1:=fun W'=>yva x.dev y.dev W'
 have c2:=fun W'=>yxa x.n y.n W'
 unfold qB
 generalize Lib.compareInt x.dev y.dev = r1 at c1 ⊢
 generalize Lib.compareInt x.n y.n = r2 at c2 ⊢
 by_cases h:r1 = 0
 ·subst h
  go_enter Tryz.func56,Tryz.ntmps56
  go_wp2_with (first | (go_at_call 120;refine (c1 _).mono ?_;rintro e w' ⟨rfl,rfl⟩) | (go_at_call 121;refine (c2 _).mono ?_;rintro e w' ⟨rfl,rfl⟩))
  go_ret
  exact ⟨by simp,0,_,by rw [alloc_eq_grow,alloc_eq_grow,grow_grow];rfl⟩
 ·go_enter Tryz.func56,Tryz.ntmps56
  go_wp2_with (first | (go_at_call 120;refine (c1 _).mono ?_;rintro e w' ⟨rfl,rfl⟩) | (go_at_call 121;refine (c2 _).mono ?_;rintro e w' ⟨rfl,rfl⟩))
  go_ret
  exact ⟨by simp [h],0,_,by rw [alloc_eq_grow,alloc_eq_grow,grow_grow];rfl⟩
theorem jk (x y:TDot):ltOf qB x y = zL x y:=by
 unfold ltOf qB Lib.compareInt zL;rw [Bool.eq_iff_iff];simp only [decide_eq_true_eq,Bool.or_eq_true,Bool.and_eq_true]
 split <;> (repeat' split) <;> omega
theorem zQa : SWO (ltOf qB) where
 irrefl x:=by rw [jk];simp [zL]
 trans x y z h1 h2:=by rw [jk] at *;simp [zL] at *;omega
 ntrans x y z h1 h2:=by rw [jk] at *;simp [zL] at *;omega
instance inhcf169 : Inhabited TDot:=⟨⟨0,0⟩⟩
theorem y4a (blk off size:Nat) (w:World):CmpLays Tryz.prog 56 #[] TDot.v 2 qB blk off size w:=fun _ _ _ _ x y=>y3a x y _
set_option maxHeartbeats 2000000 in
set_option maxRecDepth 100000 in
theorem z7a (blk off cap:Nat) (d:Array TDot) (w:World) (hH:HoldsK TDot.v 2 w blk off d) (hblk:blk < w.heap.size) (hsz:d.size < 4611686018427387904) :
  Calls Tryz.prog 169 #[.slice (some ⟨blk,off,none⟩) d.size cap,.func (.func 56) #[] #[]] w fun e w'=>e = .returned (.tuple #[]) ∧ ∃ n os,w' = sortWorldK TDot.v 2 w blk off n (pdq (ltOf qB) d 0 d.size (Lib.bitLen d.size) true true) os:=by
 have eg:∀ args w,(callFunc 56 args).run Tryz.prog w = .ok (.enter 56 args) w:=Tryz.call56;have e14:=Tryz.call200;have e15:=Tryz.call193;have hlim:Lib.bitLen d.size < 4611686018427387904:=Nat.lt_of_le_of_lt (Lib.bitLen_le d.size 62 (by omega) (by omega)) (by omega);have hp:=AnyQ.pdqsortCmpFunc_all Tryz.pdq200 2 Tryz.isAgg66 Tryz.sizeOf66 TDot.v qB 56 #[] zQa blk off cap d w eg (y4a blk off d.size w) ⟨fun _=>rfl,TDot.v1,hH,hblk⟩ (d.size + 1) 0 d.size (Lib.bitLen d.size) d w (by omega) rfl (SWK.start hH) (Nat.zero_le _) (Nat.le_refl _) hsz hlim (Or.inl rfl)
 change Calls Tryz.prog 200 _ _ _ at hp
 have hl:Calls Tryz.prog 193 #[.int .u64 (d.size:Int)] w fun e w'=>e = .returned (.int .i64 (Lib.bitLen d.size:Nat)) ∧ w' = w:=by
  have h:=Any.bits_Len (SlLaysF0.n15.bits Tryz.bits193) (d.size:Int) w (by omega) (by omega)
  rwa [Int.toNat_natCast] at h
 have wr:IntKind.u64.wrap (d.size:Int) = d.size:=by simp [IntKind.wrap,IntKind.bits,IntKind.signed];omega
 clear hH
 go_enter Tryz.func169,Tryz.ntmps169
 go_wp2_with (first | (go_at_call 193;refine hl.mono ?_;rintro e w' ⟨rfl,rfl⟩) | (go_at_call 200;refine hp.mono ?_;rintro e w' ⟨rfl,n,os,rfl⟩))
 go_end0
 exact ⟨rfl,n,os,rfl⟩
theorem QL (w:World):Calls Tryz.prog 169 #[.slice none 0 0,.func (.func 56) #[] #[]] w fun e w'=>e = .returned (.tuple #[]) ∧ Go.RowKit.Below w.heap.size w w':=by
 have e14:=Tryz.call200;have e15:=Tryz.call193;have hp:=fun lim W=>AnyF.pdqsortCmpFunc_none Tryz.pdq200 none 0 lim (.func (.func 56) #[] #[]) W
 have hl:∀ W,Calls Tryz.prog 193 #[.int .u64 0] W fun e w'=>e = .returned (.int .i64 (Lib.bitLen 0:Nat)) ∧ w' = W:=fun W=>by
  have h:=Any.bits_Len (SlLaysF0.n15.bits Tryz.bits193) 0 W (by omega) (by omega);exact h
 go_enter Tryz.func169,Tryz.ntmps169
 go_wp2_with (first | (go_at_call 193;refine (hl _).mono ?_;rintro e w' ⟨rfl,rfl⟩) | (go_at_call 200;refine (hp _ _).mono ?_;rintro e w' ⟨rfl,rfl⟩))
 go_end0
 exact ⟨rfl,Go.RowKit.Below.refl _ _⟩
theorem y5a : SortLaw Tryz.prog 169 56 2 TDot.v zL:=SortLaw.of zQa jk (fun _=>rfl) QL (fun blk off cap d w hH hblk hsz=>z7a blk off cap d w hH hblk hsz)
def qC (x y:TRun):Int:=Lib.compareInt x.lo y.lo
theorem y6a (x y:TRun) (W:World):Calls Tryz.prog 197 #[.agg #[.int .u64 x.lo,.int .u64 x.hi],.agg #[.int .u64 y.lo,.int .u64 y.hi]] W fun e w'=>e = .returned (.int .i64 (qC x y)) ∧ ∃ q os',w' = grow (W.drewN q) os':=by
 have c1:=fun W'=>yxa x.lo y.lo W'
 unfold qC
 generalize Lib.compareInt x.lo y.lo = r1 at c1 ⊢
 go_enter Tryz.func197,Tryz.ntmps197
 go_wp2_with (go_at_call 121;refine (c1 _).mono ?_;rintro e w' ⟨rfl,rfl⟩)
 go_ret
 exact ⟨rfl,0,_,by rw [alloc_eq_grow,alloc_eq_grow,grow_grow];rfl⟩
theorem jl (x y:TRun):ltOf qC x y = Uc x y:=by
 unfold ltOf qC Lib.compareInt Uc;rw [Bool.eq_iff_iff];simp only [decide_eq_true_eq,Bool.or_eq_true,Bool.and_eq_true]
 split <;> (repeat' split) <;> omega
theorem zRa : SWO (ltOf qC) where
 irrefl x:=by rw [jl];simp [Uc]
 trans x y z h1 h2:=by rw [jl] at *;simp [Uc] at *;omega
 ntrans x y z h1 h2:=by rw [jl] at *;simp [Uc] at *;omega
instance inhcf196 : Inhabited TRun:=⟨⟨0,0⟩⟩
theorem y7a (blk off size:Nat) (w:World):CmpLays Tryz.prog 197 #[] TRun.v 2 qC blk off size w:=fun _ _ _ _ x y=>y6a x y _
set_option maxHeartbeats 2000000 in
set_option maxRecDepth 100000 in
theorem z8a (blk off cap:Nat) (d:Array TRun) (w:World) (hH:HoldsK TRun.v 2 w blk off d) (hblk:blk < w.heap.size) (hsz:d.size < 4611686018427387904) :
  Calls Tryz.prog 196 #[.slice (some ⟨blk,off,none⟩) d.size cap,.func (.func 197) #[] #[]] w fun e w'=>e = .returned (.tuple #[]) ∧ ∃ n os,w' = sortWorldK TRun.v 2 w blk off n (pdq (ltOf qC) d 0 d.size (Lib.bitLen d.size) true true) os:=by
 have eg:∀ args w,(callFunc 197 args).run Tryz.prog w = .ok (.enter 197 args) w:=Tryz.call197;have e14:=Tryz.call216;have e15:=Tryz.call193;have hlim:Lib.bitLen d.size < 4611686018427387904:=Nat.lt_of_le_of_lt (Lib.bitLen_le d.size 62 (by omega) (by omega)) (by omega);have hp:=AnyQ.pdqsortCmpFunc_all Tryz.pdq216 2 Tryz.isAgg78 Tryz.sizeOf78 TRun.v qC 197 #[] zRa blk off cap d w eg (y7a blk off d.size w) ⟨fun _=>rfl,TRun.v1,hH,hblk⟩ (d.size + 1) 0 d.size (Lib.bitLen d.size) d w (by omega) rfl (SWK.start hH) (Nat.zero_le _) (Nat.le_refl _) hsz hlim (Or.inl rfl)
 change Calls Tryz.prog 216 _ _ _ at hp
 have hl:Calls Tryz.prog 193 #[.int .u64 (d.size:Int)] w fun e w'=>e = .returned (.int .i64 (Lib.bitLen d.size:Nat)) ∧ w' = w:=by
  have h:=Any.bits_Len (SlLaysF0.n15.bits Tryz.bits193) (d.size:Int) w (by omega) (by omega)
  rwa [Int.toNat_natCast] at h
 have wr:IntKind.u64.wrap (d.size:Int) = d.size:=by simp [IntKind.wrap,IntKind.bits,IntKind.signed];omega
 clear hH
 go_enter Tryz.func196,Tryz.ntmps196
 go_wp2_with (first | (go_at_call 193;refine hl.mono ?_;rintro e w' ⟨rfl,rfl⟩) | (go_at_call 216;refine hp.mono ?_;rintro e w' ⟨rfl,n,os,rfl⟩))
 go_end0
 exact ⟨rfl,n,os,rfl⟩
theorem QM (w:World):Calls Tryz.prog 196 #[.slice none 0 0,.func (.func 197) #[] #[]] w fun e w'=>e = .returned (.tuple #[]) ∧ Go.RowKit.Below w.heap.size w w':=by
 have e14:=Tryz.call216;have e15:=Tryz.call193;have hp:=fun lim W=>AnyF.pdqsortCmpFunc_none Tryz.pdq216 none 0 lim (.func (.func 197) #[] #[]) W
 have hl:∀ W,Calls Tryz.prog 193 #[.int .u64 0] W fun e w'=>e = .returned (.int .i64 (Lib.bitLen 0:Nat)) ∧ w' = W:=fun W=>by
  have h:=Any.bits_Len (SlLaysF0.n15.bits Tryz.bits193) 0 W (by omega) (by omega);exact h
 go_enter Tryz.func196,Tryz.ntmps196
 go_wp2_with (first | (go_at_call 193;refine (hl _).mono ?_;rintro e w' ⟨rfl,rfl⟩) | (go_at_call 216;refine (hp _ _).mono ?_;rintro e w' ⟨rfl,rfl⟩))
 go_end0
 exact ⟨rfl,Go.RowKit.Below.refl _ _⟩
theorem z9a : SortLaw Tryz.prog 196 197 2 TRun.v Uc:=SortLaw.of zRa jl (fun _=>rfl) QM (fun blk off cap d w hH hblk hsz=>z8a blk off cap d w hH hblk hsz)
instance inhcf204 : Inhabited TDot:=⟨⟨0,0⟩⟩
end Go.Proofs

