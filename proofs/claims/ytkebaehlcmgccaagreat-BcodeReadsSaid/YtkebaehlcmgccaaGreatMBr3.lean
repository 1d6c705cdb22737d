/- Texts that the walks and laws lean on, side by side. -/
import Derived.Test.YtkebaehlcmgccaaGreatProg
import Derived.Shelf.SlGeneric
import Derived.Shelf.SlLaysF0
import Derived.Ground.SlsfProg
import Derived.Shelf.SlSortCmp.WholeK
import Derived.Test.YtkebaehlcmgccaaGreatMBr2
set_option linter.unusedVariables false
set_option linter.unusedSimpArgs false
namespace Go.Ep
open Go

def Zh (a1:List Int) (b2:List Int):M Bool:=
 M.pure ((decide ((strL a1) = (strL b2))))

def xw (x1:Int):M Bool:=
 M.pure (!decide (x1 = x1))

def ye (x1:Int) (y2:Int):M Int:=
 M.bind (M.det (xw x1)) fun v3=>
 M.bind (M.det (xw y2)) fun v5=>
 cond v3
  (cond v5
   (M.pure 0)
   (M.pure (-1)))
  (cond v5
   (M.pure 1)
   (cond (decide (x1 < y2))
    (M.pure (-1))
    (cond (decide (y2 < x1))
     (M.pure 1)
     (M.pure 0))))

def vc (l1:List TRun):Int × List TRun -> M (M.Step (Int × List TRun) (List TRun)):=fun ⟨v23,some24⟩=>
 cond ((decide (v23 < (List.length l1:Int))))
  (M.bind (M.bind (M.idx l1 v23) fun x27=>
  M.bind (cond (decide (0 < x27.lo))
   (cond (decide (x27.lo <= x27.hi))
    (M.pure (decide (x27.hi <= 281474976710655)))
    (M.pure false))
   (M.pure false)) (fun v29=>
  cond v29
   (M.need ((List.length some24 + List.length ([x27])) * 16 <= 140737488355328) <|
   M.pure (some24 ++ [x27]))
   (M.pure some24))) (fun some26=>
  M.pure (.next (((IntKind.i64.wrap (v23 + 1)),some26)))))
  (M.pure (.done some24))
def vd (some2:List TRun) (s34:List TRun):Int × List TRun -> M (M.Step (Int × List TRun) (List TRun)):=fun ⟨v69,out70⟩=>
 cond ((decide (v69 < ((List.length some2):Int))))
  (M.bind (M.bind (M.idx s34 v69) fun x73=>
  M.bind (cond ((decide (0 <= ((IntKind.i64.wrap (((List.length out70):Int) - 1))))))
   (M.bind (M.idx out70 ((IntKind.i64.wrap (((List.length out70):Int) - 1)))) fun x77=>
   M.pure ((decide (x73.lo <= (IntKind.u64.wrap (x77.hi + 1))))))
   (M.pure false)) (fun v75=>
  cond v75
   (M.bind (M.idx out70 ((IntKind.i64.wrap (((List.length out70):Int) - 1)))) fun x80=>
   M.bind (M.idx out70 ((IntKind.i64.wrap (((List.length out70):Int) - 1)))) fun x82=>
   M.pure ((List.set out70 ((Int.toNat ((IntKind.i64.wrap (((List.length out70):Int) - 1))))) (⟨x82.lo,(max x80.hi x73.hi)⟩:TRun))))
   (M.need ((List.length out70 + List.length ([x73])) * 16 <= 140737488355328) <|
   M.pure (out70 ++ [x73])))) (fun out72=>
  M.pure (.next (((IntKind.i64.wrap (v69 + 1)),out72)))))
  (M.pure (.done out70))
def xP (l1:List TRun):M (List TRun):=
 M.bind (M.loop (vc l1) (0,([]:List TRun))) (fun some2=>
 M.need (List.length some2 < 4611686018427387904)<|M.bind (M.srt JB some2) fun s34=>
 M.bind (M.loop (vd some2 s34) (0,([]:List TRun))) (fun out38=>
 M.pure out38))

def xx (x1:Int):M Bool:=
 M.pure (!decide (x1 = x1))

def xF (x1:Int) (y2:Int):M Int:=
 M.bind (M.det (xx x1)) fun v3=>
 M.bind (M.det (xx y2)) fun v5=>
 cond v3
  (cond v5
   (M.pure 0)
   (M.pure (-1)))
  (cond v5
   (M.pure 1)
   (cond (decide (x1 < y2))
    (M.pure (-1))
    (cond (decide (y2 < x1))
     (M.pure 1)
     (M.pure 0))))

def ZF (m1:List (Int × List TRun)):List Nat × List TPart -> M (M.Step (List Nat × List TPart) (List TPart)):=fun ⟨seen28,c29⟩=>
 M.need (∀ i ∈ seen28,i < List.length m1)<|M.bind (M.nxt (List.length m1) seen28) fun o=>match o with
 | none=>
  M.pure (.done c29)
 | some j30=>
  M.bind (M.idx m1 (Int.ofNat j30)) fun kv34=>
  M.bind (M.det (xP kv34.2)) fun v36=>
  cond ((decide (0 < ((List.length v36):Int))))
   (M.need ((List.length c29 + List.length ([(⟨kv34.1,v36⟩:TPart)])) * 32 <= 140737488355328) <|
   M.pure (.next (((seen28 ++ [j30]),(c29 ++ [(⟨kv34.1,v36⟩:TPart)])))))
   (M.pure (.next ((seen28 ++ [j30]),c29)))
def uU (m1:List (Int × List TRun)):M (List TPart):=
 M.bind (M.loop (ZF m1) ([],([]:List TPart))) (fun c3=>
 M.need (List.length c3 < 4611686018427387904)<|M.bind (M.srt JQ c3) fun s41=>
 M.pure s41)

def zm (p:TPart):Option (Int × List TRun):=if 0 < p.dev then some (p.dev,p.runs) else none
def YI (c1:List TPart):M (List (Int × List TRun)):=
 M.need (AL.growOK 16 (List.length c1) (List.filterMap zm c1)) <|
 M.pure ((AL.grow ([]:List (Int × List TRun)) (List.filterMap zm c1)))

def YJ (c1:List TPart):M (List TPart):=
 M.bind (M.det (YI c1)) fun v2=>
 M.bind (M.det (uU v2)) fun v5=>
 M.pure v5

def zy (s1:List TDot):M (List TDot):=
 M.bind (M.isNil s1) fun b2=>
 cond b2
  (M.pure ([]:List TDot))
  (M.need ((List.length ([]:List TDot) + List.length s1) * 16 <= 140737488355328) <|
  M.pure (([]:List TDot) ++ s1))

def yo (e1:TEvent):M TEvent:=
 M.bind (M.det (zy e1.kills)) fun v2=>
 M.pure (⟨e1.dot,e1.kind,e1.cid,e1.field,e1.text,v2⟩:TEvent)

def we (a1:TDot) (b2:TDot):M Int:=
 M.bind (M.det (xF a1.dev b2.dev)) fun v3=>
 cond (!decide (v3 = 0))
  (M.pure v3)
  (M.bind (M.det (ye a1.n b2.n)) fun v6=>
  M.pure v6)

def ZG :Int × Int -> M (M.Step (Int × Int) Int):=fun ⟨v7,n8⟩=>
 cond (decide (0 < v7))
  (M.pure (.next (((Int.fdiv v7 (2 ^ 8)),(IntKind.i64.wrap (n8 + 1))))))
  (M.pure (.done n8))
def We (v1:Int):M Int:=
 M.bind (M.loop ZG (v1,0)) (fun n2=>
 M.pure n2)

def XX (v1:Int) (i2:Int):M Int:=
 cond ((decide (7 < (IntKind.u64.wrap i2))))
  (M.pure 0)
  (M.need ((0:Int) <= ((IntKind.u64.wrap (8 * (IntKind.u64.wrap i2))))) <|
  M.pure ((IntKind.u8.wrap ((Int.fdiv v1 (2 ^ (min (Int.toNat ((IntKind.u64.wrap (8 * (IntKind.u64.wrap i2))))) 64)))))))

def uD (v2:Int):Int × List Int -> M (M.Step (Int × List Int) (List Int)):=fun ⟨i19,v20⟩=>
 cond (decide (0 <= i19))
  (M.bind (M.det (XX v2 i19)) fun v22=>
  M.need ((List.length v20 + List.length ([v22])) * 1 <= 140737488355328) <|
  M.pure (.next (((IntKind.i64.wrap (i19 - 1)),(v20 ++ [v22])))))
  (M.pure (.done v20))
def XY (b1:List Int) (v2:Int):M (List Int):=
 M.bind (M.det (We v2)) fun v3=>
 M.need ((0:Int) <= ((IntKind.i64.wrap (((IntKind.i64.wrap ((List.length b1:Int) + v3))) + 1))) /\ ((IntKind.i64.wrap (((IntKind.i64.wrap ((List.length b1:Int) + v3))) + 1))) * 1 <= 140737488355328) <|
 M.need ((List.length ([]:List Int) + List.length b1) * 1 <= 140737488355328) <|
 M.need ((List.length (([]:List Int) ++ b1) + List.length ([(IntKind.u8.wrap v3)])) * 1 <= 140737488355328) <|
 M.bind (M.loop (uD v2) (((IntKind.i64.wrap (v3 - 1)),((([]:List Int) ++ b1) ++ [(IntKind.u8.wrap v3)])))) (fun v8=>
 M.pure v8)

def ZH (d1:TDot):M Bool:=
 M.bind (cond (decide (0 < d1.dev))
  (cond (decide (0 < d1.n))
   (M.pure (decide (d1.n <= 281474976710655)))
   (M.pure false))
  (M.pure false)) (fun v2=>
 M.pure v2)

def zf (row1:List TDot) (k148:Int):Int × Int × List TDot -> M (M.Step (Int × Int × List TDot) (Int × List TDot)):=fun ⟨k197,k2_198,v199⟩=>
 cond ((decide (k2_198 < ((((List.length row1 - Int.toNat k148):Nat):Int)))))
  (M.bind (M.need ((0:Int) <= k2_198 /\ k2_198 < (((List.length row1 - Int.toNat k148):Nat):Int))<|M.bind (M.idx v199 ((((Int.toNat k148) + Int.toNat k2_198):Nat):Int)) fun x203=>
  M.need ((0:Int) <= (IntKind.i64.wrap (k2_198 - 1)) /\ (IntKind.i64.wrap (k2_198 - 1)) < (((List.length row1 - Int.toNat k148):Nat):Int))<|M.bind (M.idx v199 ((((Int.toNat k148) + Int.toNat (IntKind.i64.wrap (k2_198 - 1))):Nat):Int)) fun x207=>
  cond ((!(decide (x203.dev = x207.dev) && decide (x203.n = x207.n))))
   (M.need ((0:Int) <= k2_198 /\ k2_198 < (((List.length row1 - Int.toNat k148):Nat):Int))<|M.bind (M.idx v199 ((((Int.toNat k148) + Int.toNat k2_198):Nat):Int)) fun x212=>
   M.bind (M.idx v199 k197) fun x216=>
   M.pure (((IntKind.i64.wrap (k197 + 1)),(List.set v199 (Int.toNat k197) x212))))
   (M.pure (k197,v199))) (fun ⟨k201,v202⟩=>
  M.pure (.next ((k201,(IntKind.i64.wrap (k2_198 + 1)),v202)))))
  (M.pure (.done (k197,v199)))
def zg (row1:List TDot):Int -> M (M.Step Int (M.Ex Unit (List TDot))):=fun k148=>
 cond ((decide (k148 < ((List.length row1):Int))))
  (M.bind (M.bind (M.idx row1 k148) fun x150=>
  M.bind (M.idx row1 (IntKind.i64.wrap (k148 - 1))) fun x152=>
  cond (((decide (x150.dev = x152.dev) && decide (x150.n = x152.n))))
   (M.need ((0:Int) <= k148 /\ k148 <= (List.length row1:Int)) <|
   M.bind (M.loop (zf row1 k148) (k148,1,row1)) (fun ⟨k156,v157⟩=>
   M.need ((0:Int) <= k156 /\ k156 <= (List.length v157:Int)) <|
   M.need ((Int.toNat k156) + (List.length v157 - Int.toNat k156) <= List.length v157) <|
   M.need ((0:Int) <= 0 /\ (0:Int) <= k156 /\ k156 <= (List.length ((List.take (Int.toNat k156) v157 ++ List.replicate (List.length v157 - Int.toNat k156) (⟨0,0⟩:TDot) ++ List.drop ((Int.toNat k156) + (List.length v157 - Int.toNat k156)) v157)):Int)) <|
   M.pure (.ret ((.done ((.ret (((List.take (Int.toNat k156) ((List.take (Int.toNat k156) v157 ++ List.replicate (List.length v157 - Int.toNat k156) (⟨0,0⟩:TDot) ++ List.drop ((Int.toNat k156) + (List.length v157 - Int.toNat k156)) v157))))))))))))
   (M.pure (.brk ()))) (M.exk (fun _=>
  M.pure (.next (IntKind.i64.wrap (k148 + 1))))))
  (M.pure (.done (.brk ())))
def zn (row1:List TDot):M (List TDot):=
 cond ((decide (((List.length row1):Int) < 2)))
  (M.pure row1)
  (M.bind (M.loop (zg row1) 1) (M.exk (fun _=>
  M.pure row1)))

def XZ (l1:List TDot):M (List TDot):=
 M.bind (M.det (zy l1)) fun v2=>
 M.need (List.length v2 < 4611686018427387904)<|M.bind (M.srt zV v2) fun s4=>
 M.bind (M.det (zn s4)) fun y8=>
 M.pure y8

def VX :M (List TPart × Bool × (List (TDot × TEvent)) × Bool × (List (TDot × TEvent))):=
 M.pure ((([]:List TPart),true,([]:List (TDot × TEvent)),true,([]:List (TDot × TEvent))))

def xR (ctx_1:List TPart) (nl2:Bool) (m3:List (TDot × TEvent)) (nl4:Bool) (m5:List (TDot × TEvent)):M (List TPart):=
 M.bind (M.det (YJ ctx_1)) fun v6=>
 M.pure v6

def yQ (b1:List Int) (row2:List Int):M (List Int):=
 M.need ((List.length row2 + List.length b1) * 1 <= 140737488355328) <|
 M.pure (row2 ++ b1)

def zT (v1:Int) (row2:List Int):M (List Int):=
 M.bind (M.det (XY ([]:List Int) v1)) fun v3=>
 M.bind (M.det (yQ v3 row2)) fun y5=>
 M.pure y5

def xY (x79:TPart):Int × List Int -> M (M.Step (Int × List Int) (List Int)):=fun ⟨v101,v102⟩=>
 cond ((decide (v101 < (List.length x79.runs:Int))))
  (M.bind (M.idx x79.runs v101) fun x104=>
  M.bind (M.det (zT x104.lo v102)) fun y106=>
  M.bind (M.det (zT x104.hi y106)) fun y108=>
  M.pure (.next (((IntKind.i64.wrap (v101 + 1)),y108))))
  (M.pure (.done v102))
def xZ (v3:List TPart):Int × List Int -> M (M.Step (Int × List Int) (List Int)):=fun ⟨v75,v76⟩=>
 cond ((decide (v75 < ((List.length v3):Int))))
  (M.bind (M.bind (M.idx v3 v75) fun x79=>
  M.bind (M.det (zT (IntKind.u64.wrap x79.dev) v76)) fun y81=>
  M.bind (M.det (zT (IntKind.u64.wrap (List.length x79.runs:Int)) y81)) fun y83=>
  M.loop (xY x79) (0,y83)) (fun v78=>
  M.pure (.next (((IntKind.i64.wrap (v75 + 1)),v78)))))
  (M.pure (.done v76))
def xn (c1:List TPart) (row2:List Int):M (List Int):=
 M.bind (M.det (YJ c1)) fun v3=>
 M.bind (M.det (zT ((IntKind.u64.wrap ((List.length v3):Int))) row2)) fun y5=>
 M.loop (xZ v3) (0,y5)

def Yw (m2:List (TDot × TEvent)):List Nat × List TEvent -> M (M.Step (List Nat × List TEvent) (List TEvent)):=fun ⟨seen32,out33⟩=>
 M.need (∀ i ∈ seen32,i < List.length m2)<|M.bind (M.nxt (List.length m2) seen32) fun o=>match o with
 | none=>
  M.pure (.done out33)
 | some j34=>
  M.bind (M.idx m2 (Int.ofNat j34)) fun kv38=>
  M.bind (M.det (yo kv38.2)) fun v40=>
  M.need ((List.length out33 + List.length ([v40])) * 80 <= 140737488355328) <|
  M.pure (.next ((seen32 ++ [j34]),(out33 ++ [v40])))
def Yx (m4:List (TDot × TEvent)):List Nat × List TEvent -> M (M.Step (List Nat × List TEvent) (List TEvent)):=fun ⟨seen70,out71⟩=>
 M.need (∀ i ∈ seen70,i < List.length m4)<|M.bind (M.nxt (List.length m4) seen70) fun o=>match o with
 | none=>
  M.pure (.done out71)
 | some j72=>
  M.bind (M.idx m4 (Int.ofNat j72)) fun kv76=>
  M.bind (M.det (yo kv76.2)) fun v78=>
  M.need ((List.length out71 + List.length ([v78])) * 80 <= 140737488355328) <|
  M.pure (.next ((seen70 ++ [j72]),(out71 ++ [v78])))
def ZI (nl1:Bool) (m2:List (TDot × TEvent)) (nl3:Bool) (m4:List (TDot × TEvent)):M (List TEvent):=
 M.bind (M.bind (M.loop (Yw m2) ([],([]:List TEvent))) (fun out8=>
 M.bind (M.loop (Yx m4) ([],out8)) (fun out46=>
 M.pure out46))) (fun out5=>
 M.need (List.length out5 < 4611686018427387904)<|M.bind (M.srt YH out5) fun s82=>
 M.pure s82)

def xS (ctx_1:List TPart) (nl2:Bool) (m3:List (TDot × TEvent)) (nl4:Bool) (m5:List (TDot × TEvent)):M (List TEvent):=
 M.bind (M.det (ZI nl2 m3 nl4 m5)) fun y6=>
 M.pure y6

def xp (d1:TDot) (row2:List Int):M (List Int):=
 M.bind (M.det (zT (IntKind.u64.wrap d1.dev) row2)) fun y3=>
 M.bind (M.det (zT d1.n y3)) fun y5=>
 M.pure y5

def yf (c1:Int) (row2:List Int):M (List Int):=
 M.bind (M.det (yQ ([c1]) row2)) fun y3=>
 M.pure y3

def xH (s1:ByteArray) (row2:List Int):M (List Int):=
 M.bind (M.det (zT (IntKind.u64.wrap (ByteArray.size s1:Int)) row2)) fun y3=>
 M.need (ByteArray.size s1 <= 9223372036854775807) <|
 M.bind (M.det (yQ (yW s1) y3)) fun y6=>
 M.pure y6

def yg (l1:List TDot):Int × List TDot -> M (M.Step (Int × List TDot) (List TDot)):=fun ⟨v22,some23⟩=>
 cond ((decide (v22 < (List.length l1:Int))))
  (M.bind (M.bind (M.idx l1 v22) fun x26=>
  M.bind (M.det (ZH x26)) fun v28=>
  cond v28
   (M.need ((List.length some23 + List.length ([x26])) * 16 <= 140737488355328) <|
   M.pure (some23 ++ [x26]))
   (M.pure some23)) (fun some25=>
  M.pure (.next (((IntKind.i64.wrap (v22 + 1)),some25)))))
  (M.pure (.done some23))
def xI (v32:List TDot):Int × List Int -> M (M.Step (Int × List Int) (List Int)):=fun ⟨v48,v49⟩=>
 cond ((decide (v48 < ((List.length v32):Int))))
  (M.bind (M.idx v32 v48) fun x51=>
  M.bind (M.det (xp x51 v49)) fun y53=>
  M.pure (.next (((IntKind.i64.wrap (v48 + 1)),y53))))
  (M.pure (.done v49))
def wg (l1:List TDot) (row2:List Int):M (List Int):=
 M.bind (M.loop (yg l1) (0,([]:List TDot))) (fun some3=>
 M.bind (M.det (XZ some3)) fun v32=>
 M.bind (M.det (zT ((IntKind.u64.wrap ((List.length v32):Int))) row2)) fun y34=>
 M.loop (xI v32) (0,y34))

def YK (e1:TEvent) (row2:List Int):M (List Int):=
 M.bind (M.det (xp e1.dot row2)) fun y3=>
 M.bind (M.det (yf e1.kind y3)) fun y5=>
 M.bind (M.det (zT e1.cid y5)) fun y7=>
 M.bind (M.det (yf e1.field y7)) fun y9=>
 M.bind (M.det (xH e1.text y9)) fun y11=>
 M.bind (M.det (wg e1.kills y11)) fun y13=>
 M.pure y13

def xa (l1:List TEvent):Int × List Int -> M (M.Step (Int × List Int) (List Int)):=fun ⟨v17,v18⟩=>
 cond ((decide (v17 < (List.length l1:Int))))
  (M.bind (M.idx l1 v17) fun x20=>
  M.bind (M.det (YK x20 v18)) fun y22=>
  M.pure (.next (((IntKind.i64.wrap (v17 + 1)),y22))))
  (M.pure (.done v18))
def xq (l1:List TEvent) (row2:List Int):M (List Int):=
 M.bind (M.det (zT (IntKind.u64.wrap (List.length l1:Int)) row2)) fun y3=>
 M.loop (xa l1) (0,y3)

def yV (row1:List Int):M (List Int × List Int):=
 M.need (List.length row1 * 1 <= 140737488355328) <|
 M.pure (row1,row1)

def xB (ctx_1:List TPart) (nl2:Bool) (m3:List (TDot × TEvent)) (nl4:Bool) (m5:List (TDot × TEvent)):M (List Int):=
 M.bind (M.det (xR ctx_1 nl2 m3 nl4 m5)) fun y6=>
 M.bind (M.det (xn y6 ([]:List Int))) fun y8=>
 M.bind (M.det (xS ctx_1 nl2 m3 nl4 m5)) fun y10=>
 M.bind (M.det (xq y10 y8)) fun y12=>
 M.bind (M.det (yV y12)) fun y14=>
 M.pure y14.1

def xb :M (List TPart):=
 M.pure ([]:List TPart)

def xd :M (List TEvent):=
 M.pure ([]:List TEvent)

def yx :M (List Int):=
 M.bind (M.det (xb)) fun v1=>
 M.bind (M.det (xn v1 ([]:List Int))) fun y3=>
 M.bind (M.det (xd)) fun v5=>
 M.bind (M.det (xq v5 y3)) fun y7=>
 M.bind (M.det (yV y7)) fun y9=>
 M.pure y9.1

def uV :M Bool:=
 M.bind (M.bind (M.det (VX)) fun y2=>
 M.bind (M.det (xB y2.1 y2.2.1 y2.2.2.1 y2.2.2.2.1 y2.2.2.2.2)) fun y4=>
 M.bind (M.det (Zh y4 ([0,0]))) fun v6=>
 cond v6
  (M.bind (M.det (yx)) fun v9=>
  M.bind (M.det (Zh v9 ([0,0]))) fun v11=>
  M.pure v11)
  (M.pure false)) (fun v1=>
 M.pure v1)

def Uy (x1:TRun):M Bool:=
 M.bind (cond (decide (1 <= x1.lo))
  (cond (decide (x1.lo <= x1.hi))
   (M.pure (decide (x1.hi <= 281474976710655)))
   (M.pure false))
  (M.pure false)) (fun v2=>
 M.pure v2)

def Xa (l1:List TRun) (n2:Int):Int -> M (M.Step Int (M.Ex Unit Bool)):=fun i30=>
 cond ((decide (i30 < (List.length l1:Int))))
  (M.bind (M.bind (M.idx l1 i30) fun x33=>
  M.bind (M.det (Uy x33)) fun v35=>
  cond v35
   (M.bind (M.idx l1 i30) fun x38=>
   cond (decide (x38.lo <= n2))
    (M.bind (M.idx l1 i30) fun x41=>
    M.pure (decide (n2 <= x41.hi)))
    (M.pure false))
   (M.pure false)) (fun v32=>
  cond v32
   (M.pure (.done (.ret true)))
   (M.pure (.next (IntKind.i64.wrap (i30 + 1))))))
  (M.pure (.done (.brk ())))
def VY (l1:List TRun) (n2:Int):M Bool:=
 M.bind (M.loop (Xa l1 n2) 0) (M.exk (fun _=>
 M.pure false))

def Xb (l1:List Int) (n2:Int):Bool × Int × List Int -> M (M.Step (Bool × Int × List Int) (Bool × List Int)):=fun ⟨done43,i44,out45⟩=>
 cond ((decide (i44 < (List.length l1:Int))))
  (M.bind (M.bind (cond (!done43)
   (M.bind (M.idx l1 i44) fun x51=>
   M.pure (decide (n2 <= x51)))
   (M.pure false)) (fun v49=>
  M.bind (cond v49
   (M.need ((List.length out45 + List.length ([n2])) * 8 <= 140737488355328) <|
   M.pure (true,(out45 ++ [n2])))
   (M.pure (done43,out45))) (fun ⟨done53,out54⟩=>
  M.bind (M.idx l1 i44) fun x57=>
  cond (!decide (x57 = n2))
   (M.bind (M.idx l1 i44) fun x60=>
   M.need ((List.length out54 + List.length ([x60])) * 8 <= 140737488355328) <|
   M.pure (done53,(out54 ++ [x60])))
   (M.pure (done53,out54))))) (fun ⟨done47,out48⟩=>
  M.pure (.next ((done47,(IntKind.i64.wrap (i44 + 1)),out48)))))
  (M.pure (.done (done43,out45)))
def Uz (l1:List Int) (n2:Int):M (List Int):=
 M.bind (M.loop (Xb l1 n2) (false,0,([]:List Int))) (fun ⟨done3,out4⟩=>
 M.bind (cond (!done3)
  (M.need ((List.length out4 + List.length ([n2])) * 8 <= 140737488355328) <|
  M.pure (out4 ++ [n2]))
  (M.pure out4)) (fun out63=>
 M.pure out63))

def uE (a1:List TRun) (b2:List TRun):List Int × Int -> M (M.Step (List Int × Int) (List Int)):=fun ⟨out38,i39⟩=>
 cond ((decide (i39 < (((List.length ((([]:List TRun) ++ a1) ++ b2)):Int)))))
  (M.bind (M.bind (M.idx (((([]:List TRun) ++ a1) ++ b2)) i39) fun x42=>
  M.bind (M.det (Uy x42)) fun v44=>
  cond v44
   (M.bind (M.idx (((([]:List TRun) ++ a1) ++ b2)) i39) fun x47=>
   M.bind (M.det (Uz out38 x47.lo)) fun v49=>
   M.bind (M.idx (((([]:List TRun) ++ a1) ++ b2)) i39) fun x51=>
   M.bind (M.det (Uz v49 (IntKind.u64.wrap (x51.hi + 1)))) fun v53=>
   M.pure v53)
   (M.pure out38)) (fun out41=>
  M.pure (.next ((out41,(IntKind.i64.wrap (i39 + 1)))))))
  (M.pure (.done out38))
def Xc (a1:List TRun) (b2:List TRun):M (List Int):=
 M.need ((List.length ([]:List TRun) + List.length a1) * 16 <= 140737488355328) <|
 M.need ((List.length (([]:List TRun) ++ a1) + List.length b2) * 16 <= 140737488355328) <|
 M.bind (M.loop (uE a1 b2) (([]:List Int),0)) (fun out5=>
 M.pure out5)

def Xd (v4:List Int) (a1:List TRun) (b2:List TRun) (how3:Int):Int × List TRun -> M (M.Step (Int × List TRun) (List TRun)):=fun ⟨i85,out86⟩=>
 cond ((decide ((IntKind.i64.wrap (i85 + 1)) < (List.length v4:Int))))
  (M.bind (M.bind (M.idx v4 i85) fun x89=>
  M.bind (M.det (VY a1 x89)) fun v91=>
  M.bind (M.idx v4 i85) fun x93=>
  M.bind (M.det (VY b2 x93)) fun v95=>
  M.bind (cond v91
   (M.pure true)
   (M.pure v95)) (fun in97=>
  M.bind (cond (decide (how3 = 1))
   (M.bind (cond v91
    (M.pure v95)
    (M.pure false)) (fun in101=>
   M.pure in101))
   (M.pure in97)) (fun in99=>
  M.bind (cond (decide (how3 = 2))
   (M.bind (cond v91
    (M.pure (!v95))
    (M.pure false)) (fun in105=>
   M.pure in105))
   (M.pure in99)) (fun in103=>
  M.bind (cond in103
   (cond ((decide (0 <= ((IntKind.i64.wrap (((List.length out86):Int) - 1))))))
    (M.bind (M.idx out86 ((IntKind.i64.wrap (((List.length out86):Int) - 1)))) fun x110=>
    M.bind (M.idx v4 i85) fun x112=>
    M.pure ((decide ((IntKind.u64.wrap (x110.hi + 1)) = x112))))
    (M.pure false))
   (M.pure false)) (fun v107=>
  cond v107
   (M.bind (M.idx v4 (IntKind.i64.wrap (i85 + 1))) fun x115=>
   M.bind (M.idx out86 ((IntKind.i64.wrap (((List.length out86):Int) - 1)))) fun x117=>
   M.pure ((List.set out86 ((Int.toNat ((IntKind.i64.wrap (((List.length out86):Int) - 1))))) ((⟨x117.lo,(IntKind.u64.wrap (x115 - 1))⟩:TRun)))))
   (cond in103
    (M.bind (M.idx v4 i85) fun x120=>
    M.bind (M.idx v4 (IntKind.i64.wrap (i85 + 1))) fun x122=>
    M.need ((List.length out86 + List.length ([(⟨x120,(IntKind.u64.wrap (x122 - 1))⟩:TRun)])) * 16 <= 140737488355328) <|
    M.pure ((out86 ++ [(⟨x120,(IntKind.u64.wrap (x122 - 1))⟩:TRun)])))
    (M.pure out86))))))) (fun out88=>
  M.pure (.next (((IntKind.i64.wrap (i85 + 1)),out88)))))
  (M.pure (.done out86))
def VZ (a1:List TRun) (b2:List TRun) (how3:Int):M (List TRun):=
 M.bind (M.det (Xc a1 b2)) fun v4=>
 M.bind (M.loop (Xd v4 a1 b2 how3) (0,([]:List TRun))) (fun out6=>
 M.pure out6)

def Wf (a1:List TRun) (b2:List TRun):M (List TRun):=
 M.bind (M.det (VZ a1 b2 0)) fun v3=>
 M.pure v3

def YL (c1:List TPart) (dev2:Int):List TRun × Int -> M (M.Step (List TRun × Int) (List TRun)):=fun ⟨out28,i29⟩=>
 cond ((decide (i29 < (List.length c1:Int))))
  (M.bind (M.bind (M.bind (M.idx c1 i29) fun x33=>
  cond (decide (x33.dev = dev2))
   (M.pure (!decide (dev2 = 0)))
   (M.pure false)) (fun v32=>
  cond v32
   (M.bind (M.idx c1 i29) fun x37=>
   M.bind (M.det (Wf out28 x37.runs)) fun v39=>
   M.pure v39)
   (M.pure out28))) (fun out31=>
  M.pure (.next ((out31,(IntKind.i64.wrap (i29 + 1)))))))
  (M.pure (.done out28))
def Xe (c1:List TPart) (dev2:Int):M (List TRun):=
 M.bind (M.loop (YL c1 dev2) (([]:List TRun),0)) (fun out3=>
 M.pure out3)

def wh (a1:TDot) (b2:TDot):M Int:=
 cond (((decide (a1.dev = b2.dev) && decide (a1.n = b2.n))))
  (M.pure 0)
  (M.bind (cond (decide (a1.dev < b2.dev))
   (M.pure true)
   (cond (decide (a1.dev = b2.dev))
    (M.pure (decide (a1.n < b2.n)))
    (M.pure false))) (fun v4=>
  cond v4
   (M.pure (-1))
   (M.pure 1)))

def Xf (l1:List TDot) (d2:TDot):Int × List TDot -> M (M.Step (Int × List TDot) (List TDot)):=fun ⟨i26,out27⟩=>
 cond ((decide (i26 < (List.length l1:Int))))
  (M.bind (M.bind (M.idx l1 i26) fun x30=>
  M.bind (M.det (wh x30 d2)) fun v32=>
  cond (decide (v32 < 0))
   (M.bind (M.idx l1 i26) fun x35=>
   M.need ((List.length out27 + List.length ([x35])) * 16 <= 140737488355328) <|
   M.pure (out27 ++ [x35]))
   (M.pure out27)) (fun out29=>
  M.pure (.next (((IntKind.i64.wrap (i26 + 1)),out29)))))
  (M.pure (.done out27))
def Zi (l1:List TDot) (d2:TDot):Int × List TDot -> M (M.Step (Int × List TDot) (List TDot)):=fun ⟨i62,out63⟩=>
 cond ((decide (i62 < (List.length l1:Int))))
  (M.bind (M.bind (M.idx l1 i62) fun x66=>
  M.bind (M.det (wh x66 d2)) fun v68=>
  cond (decide (0 < v68))
   (M.bind (M.idx l1 i62) fun x71=>
   M.need ((List.length out63 + List.length ([x71])) * 16 <= 140737488355328) <|
   M.pure (out63 ++ [x71]))
   (M.pure out63)) (fun out65=>
  M.pure (.next (((IntKind.i64.wrap (i62 + 1)),out65)))))
  (M.pure (.done out63))
def YM (l1:List TDot) (d2:TDot):M (List TDot):=
 M.bind (M.loop (Xf l1 d2) (0,([]:List TDot))) (fun out3=>
 M.need ((List.length out3 + List.length ([d2])) * 16 <= 140737488355328) <|
 M.bind (M.loop (Zi l1 d2) (0,(out3 ++ [d2]))) (fun out39=>
 M.pure out39))

def YN (a1:List TPart):List TDot × Int -> M (M.Step (List TDot × Int) (List TDot)):=fun ⟨out16,i17⟩=>
 cond ((decide (i17 < (List.length a1:Int))))
  (M.bind (M.idx a1 i17) fun x19=>
  M.bind (M.det (YM out16 (⟨x19.dev,1⟩:TDot))) fun v21=>
  M.pure (.next ((v21,(IntKind.i64.wrap (i17 + 1))))))
  (M.pure (.done out16))
def uW (b2:List TPart):List TDot × Int -> M (M.Step (List TDot × Int) (List TDot)):=fun ⟨out36,i37⟩=>
 cond ((decide (i37 < (List.length b2:Int))))
  (M.bind (M.idx b2 i37) fun x39=>
  M.bind (M.det (YM out36 (⟨x39.dev,1⟩:TDot))) fun v41=>
  M.pure (.next ((v41,(IntKind.i64.wrap (i37 + 1))))))
  (M.pure (.done out36))
def UK (a1:List TPart) (b2:List TPart):M (List TDot):=
 M.bind (M.loop (YN a1) (([]:List TDot),0)) (fun out3=>
 M.bind (M.loop (uW b2) (out3,0)) (fun out23=>
 M.pure out23))

def UL (a1:List TRun) (b2:List TRun):M (List TRun):=
 M.bind (M.det (VZ a1 b2 1)) fun v3=>
 M.pure v3

def Wg (a1:List TRun) (b2:List TRun):M (List TRun):=
 M.bind (M.det (VZ a1 b2 2)) fun v3=>
 M.pure v3

def Xg (v4:List TDot) (a1:List TPart) (b2:List TPart) (how3:Int):Int × List TPart -> M (M.Step (Int × List TPart) (List TPart)):=fun ⟨i57,out58⟩=>
 cond ((decide (i57 < (List.length v4:Int))))
  (M.bind (M.bind (M.idx v4 i57) fun x61=>
  M.bind (M.det (Xe a1 x61.dev)) fun v63=>
  M.bind (M.idx v4 i57) fun x65=>
  M.bind (M.det (Xe b2 x65.dev)) fun v67=>
  M.bind (M.det (Wf v63 v67)) fun v69=>
  M.bind (cond (decide (how3 = 1))
   (M.bind (M.det (UL v63 v67)) fun v73=>
   M.pure v73)
   (M.pure v69)) (fun z71=>
  M.bind (cond (decide (how3 = 2))
   (M.bind (M.det (Wg v63 v67)) fun v77=>
   M.pure v77)
   (M.pure z71)) (fun z75=>
  cond ((decide (0 < (List.length z75:Int))))
   (M.bind (M.idx v4 i57) fun x80=>
   M.need ((List.length out58 + List.length ([(⟨x80.dev,z75⟩:TPart)])) * 32 <= 140737488355328) <|
   M.pure (out58 ++ [(⟨x80.dev,z75⟩:TPart)]))
   (M.pure out58)))) (fun out60=>
  M.pure (.next (((IntKind.i64.wrap (i57 + 1)),out60)))))
  (M.pure (.done out58))
def jA (a1:List TPart) (b2:List TPart) (how3:Int):M (List TPart):=
 M.bind (M.det (UK a1 b2)) fun v4=>
 M.bind (M.loop (Xg v4 a1 b2 how3) (0,([]:List TPart))) (fun out6=>
 M.pure out6)

def ZJ (c1:List TPart):M (List TPart):=
 M.bind (M.det (jA c1 ([]:List TPart) 0)) fun v2=>
 M.pure v2

def wYa (a1:List TRun) (b2:List TRun):Int -> M (M.Step Int (M.Ex Unit Bool)):=fun i17=>
 cond ((decide (i17 < (List.length a1:Int))))
  (M.bind (M.idx a1 i17) fun x19=>
  M.bind (M.idx b2 i17) fun x21=>
  cond ((!(decide (x19.lo = x21.lo) && decide (x19.hi = x21.hi))))
   (M.pure (.done (.ret false)))
   (M.pure (.next (IntKind.i64.wrap (i17 + 1)))))
  (M.pure (.done (.brk ())))
def ypa (a1:List TRun) (b2:List TRun):M Bool:=
 cond ((!decide ((List.length a1:Int) = (List.length b2:Int))))
  (M.pure false)
  (M.bind (M.loop (wYa a1 b2) 0) (M.exk (fun _=>
  M.pure true)))

def Wh (a1:List TPart) (b2:List TPart):Int -> M (M.Step Int (M.Ex Unit Bool)):=fun i33=>
 cond ((decide (i33 < (List.length a1:Int))))
  (M.bind (M.bind (M.idx a1 i33) fun x36=>
  M.bind (M.idx b2 i33) fun x38=>
  cond (!decide (x36.dev = x38.dev))
   (M.pure true)
   (M.bind (M.idx a1 i33) fun x41=>
   M.bind (M.idx b2 i33) fun x43=>
   M.bind (M.det (ypa x41.runs x43.runs)) fun v45=>
   M.pure (!v45))) (fun v35=>
  cond v35
   (M.pure (.done (.ret false)))
   (M.pure (.next (IntKind.i64.wrap (i33 + 1))))))
  (M.pure (.done (.brk ())))
def Vx (a1:List TPart) (b2:List TPart):M Bool:=
 cond ((!decide ((List.length a1:Int) = (List.length b2:Int))))
  (M.pure false)
  (M.bind (M.loop (Wh a1 b2) 0) (M.exk (fun _=>
  M.pure true)))

def Wi (a1:List TPart) (b2:List TPart):M Bool:=
 M.bind (M.det (ZJ a1)) fun v3=>
 M.bind (M.det (ZJ b2)) fun v5=>
 M.bind (M.det (Vx v3 v5)) fun v7=>
 M.pure v7

def YO (a1:List TDot) (b2:List TDot):Int -> M (M.Step Int (M.Ex Unit Bool)):=fun i17=>
 cond ((decide (i17 < (List.length a1:Int))))
  (M.bind (M.idx a1 i17) fun x19=>
  M.bind (M.idx b2 i17) fun x21=>
  cond ((!(decide (x19.dev = x21.dev) && decide (x19.n = x21.n))))
   (M.pure (.done (.ret false)))
   (M.pure (.next (IntKind.i64.wrap (i17 + 1)))))
  (M.pure (.done (.brk ())))
def UM (a1:List TDot) (b2:List TDot):M Bool:=
 cond ((!decide ((List.length a1:Int) = (List.length b2:Int))))
  (M.pure false)
  (M.bind (M.loop (YO a1 b2) 0) (M.exk (fun _=>
  M.pure true)))

def UN (a1:TEvent) (b2:TEvent):M Bool:=
 M.bind (cond (((decide (a1.dot.dev = b2.dot.dev) && decide (a1.dot.n = b2.dot.n))))
  (cond (decide (a1.kind = b2.kind))
   (cond (decide (a1.cid = b2.cid))
    (cond (decide (a1.field = b2.field))
     (cond (decide (a1.text = b2.text))
      (M.bind (M.det (UM a1.kills b2.kills)) fun v9=>
      M.pure v9)
      (M.pure false))
     (M.pure false))
    (M.pure false))
   (M.pure false))
  (M.pure false)) (fun v3=>
 M.pure v3)

def Xh (a1:List TEvent) (b2:List TEvent):Int -> M (M.Step Int (M.Ex Unit Bool)):=fun i21=>
 cond ((decide (i21 < (List.length a1:Int))))
  (M.bind (M.idx a1 i21) fun x23=>
  M.bind (M.idx b2 i21) fun x25=>
  M.bind (M.det (UN x23 x25)) fun v27=>
  cond (!v27)
   (M.pure (.done (.ret false)))
   (M.pure (.next (IntKind.i64.wrap (i21 + 1)))))
  (M.pure (.done (.brk ())))
def ZV (a1:List TEvent) (b2:List TEvent):M Bool:=
 cond ((!decide ((List.length a1:Int) = (List.length b2:Int))))
  (M.pure false)
  (M.bind (M.loop (Xh a1 b2) 0) (M.exk (fun _=>
  M.pure true)))

def UO (a1:TDelta) (b2:TDelta):M Bool:=
 M.bind (M.bind (M.det (Wi a1.from_ b2.from_)) fun v4=>
 cond v4
  (M.bind (M.det (Wi a1.to_ b2.to_)) fun v7=>
  cond v7
   (M.bind (M.det (ZV a1.events b2.events)) fun v10=>
   M.pure v10)
   (M.pure false))
  (M.pure false)) (fun v3=>
 M.pure v3)

def uz (s1_1:List TRun) (s2_2:List TRun):Int -> M (M.Step Int (M.Ex Unit Bool)):=fun v17=>
 cond ((decide (v17 < (List.length s1_1:Int))))
  (M.bind (M.idx s1_1 v17) fun x19=>
  M.bind (M.idx s2_2 v17) fun x21=>
  cond ((!(decide (x19.lo = x21.lo) && decide (x19.hi = x21.hi))))
   (M.pure (.done (.ret false)))
   (M.pure (.next (IntKind.i64.wrap (v17 + 1)))))
  (M.pure (.done (.brk ())))
def yN (s1_1:List TRun) (s2_2:List TRun):M Bool:=
 cond ((!decide ((List.length s1_1:Int) = (List.length s2_2:Int))))
  (M.pure false)
  (M.bind (M.loop (uz s1_1 s2_2) 0) (M.exk (fun _=>
  M.pure true)))

def jB (x1:TPart) (y2:TPart):M Bool:=
 M.bind (cond (decide (x1.dev = y2.dev))
  (M.bind (M.det (yN x1.runs y2.runs)) fun v5=>
  M.pure v5)
  (M.pure false)) (fun v3=>
 M.pure v3)

def zR (s1_1:List TPart) (s2_2:List TPart):Int -> M (M.Step Int (M.Ex Unit Bool)):=fun v21=>
 cond ((decide (v21 < (List.length s1_1:Int))))
  (M.bind (M.idx s1_1 v21) fun x23=>
  M.bind (M.idx s2_2 v21) fun x25=>
  M.bind (M.det (jB x23 x25)) fun v27=>
  cond (!v27)
   (M.pure (.done (.ret false)))
   (M.pure (.next (IntKind.i64.wrap (v21 + 1)))))
  (M.pure (.done (.brk ())))
def zW (s1_1:List TPart) (s2_2:List TPart):M Bool:=
 cond ((!decide ((List.length s1_1:Int) = (List.length s2_2:Int))))
  (M.pure false)
  (M.bind (M.loop (zR s1_1 s2_2) 0) (M.exk (fun _=>
  M.pure true)))

def yqa (a1:List TPart) (b2:List TPart):M Bool:=
 M.bind (M.det (zW a1 b2)) fun v3=>
 M.pure v3

def vV (c1:List TPart):M Bool:=
 M.bind (M.det (YJ c1)) fun v2=>
 M.bind (M.det (yqa c1 v2)) fun v4=>
 M.pure v4

def uX (x7:Int) (at2:Int) (b1:List Int):Int × Int -> M (M.Step (Int × Int) Int):=fun ⟨v28,v29⟩=>
 cond ((decide (v29 < ((List.length ((List.drop (Int.toNat 0) (List.take (Int.toNat (IntKind.i64.wrap x7)) ((List.drop (Int.toNat (IntKind.i64.wrap (at2 + 1))) (List.take (Int.toNat (List.length b1:Int)) b1)))))):Int)))))
  (M.bind (M.idx ((List.drop (Int.toNat 0) (List.take (Int.toNat (IntKind.i64.wrap x7)) ((List.drop (Int.toNat (IntKind.i64.wrap (at2 + 1))) (List.take (Int.toNat (List.length b1:Int)) b1)))))) v29) fun x31=>
  M.pure (.next (((bOr .u64 (IntKind.u64.wrap (v28 * 2 ^ 8)) (IntKind.u64.wrap x31)),(IntKind.i64.wrap (v29 + 1))))))
  (M.pure (.done v28))
def UP (b1:List Int) (at2:Int):M (Int × Int × Int):=
 M.bind (cond (decide (at2 < 0))
  (M.pure true)
  (M.pure ((decide ((List.length b1:Int) < at2))))) (fun v3=>
 cond v3
  (M.pure (0,0,1))
  (cond ((decide (at2 = (List.length b1:Int))))
   (M.pure (0,0,2))
   (M.bind (M.idx b1 at2) fun x7=>
   M.need ((0:Int) <= (IntKind.i64.wrap (at2 + 1)) /\ ((IntKind.i64.wrap (at2 + 1)):Int) <= (List.length b1:Int) /\ (List.length b1:Int) <= (List.length b1:Int)) <|
   M.bind (cond ((decide (8 < (IntKind.i64.wrap x7))))
    (M.pure true)
    (cond ((decide (0 < (IntKind.i64.wrap x7))))
     (cond ((decide (0 < ((List.length ((List.drop (Int.toNat (IntKind.i64.wrap (at2 + 1))) (List.take (Int.toNat (List.length b1:Int)) b1))):Int)))))
      (M.bind (M.idx ((List.drop (Int.toNat (IntKind.i64.wrap (at2 + 1))) (List.take (Int.toNat (List.length b1:Int)) b1))) 0) fun x14=>
      M.pure (decide (x14 = 0)))
      (M.pure false))
     (M.pure false))) (fun v10=>
   cond v10
    (M.pure (0,0,4))
    (cond ((decide (((List.length ((List.drop (Int.toNat (IntKind.i64.wrap (at2 + 1))) (List.take (Int.toNat (List.length b1:Int)) b1))):Int)) < (IntKind.i64.wrap x7))))
     (M.pure (0,0,2))
     (M.need ((0:Int) <= 0 /\ (0:Int) <= (IntKind.i64.wrap x7) /\ (IntKind.i64.wrap x7) <= (List.length ((List.drop (Int.toNat (IntKind.i64.wrap (at2 + 1))) (List.take (Int.toNat (List.length b1:Int)) b1))):Int)) <|
     M.bind (M.loop (uX x7 at2 b1) (0,0)) (fun v19=>
     M.pure ((v19,(IntKind.i64.wrap ((IntKind.i64.wrap (at2 + 1)) + (IntKind.i64.wrap x7))),0)))))))))

def YP (v1:Int):M (Int × Int):=
 M.pure (((IntKind.u16.wrap (Int.fdiv v1 (2 ^ 48))),(bAnd .u64 v1 281474976710655)))

def Xi (v1:Int):M (TDot × Bool):=
 M.bind (M.det (YP v1)) fun v2=>
 M.bind (M.det (ZH (⟨v2.1,v2.2⟩:TDot))) fun v4=>
 cond (!v4)
  (M.pure ((⟨0,0⟩:TDot),false))
  (M.pure ((⟨v2.1,v2.2⟩:TDot),true))

def Xj (f1:Int):M Bool:=
 M.bind (cond (decide (1 <= f1))
  (M.pure (decide (f1 <= 5)))
  (M.pure false)) (fun v2=>
 M.pure v2)

def wi (s1:ByteArray):Int -> M (M.Step Int (M.Ex Unit Bool)):=fun v20=>
 cond ((decide (v20 < (ByteArray.size s1:Int))))
  (M.bind (M.bind (M.idx (yW s1) v20) fun b23=>
  cond (decide (b23 < 32))
   (M.pure true)
   (M.bind (M.idx (yW s1) v20) fun b26=>
   M.pure (decide (126 < b26)))) (fun v22=>
  cond v22
   (M.pure (.done (.ret false)))
   (M.pure (.next (IntKind.i64.wrap (v20 + 1))))))
  (M.pure (.done (.brk ())))
def Xk (s1:ByteArray):M Bool:=
 cond ((decide (60 < (ByteArray.size s1:Int))))
  (M.pure false)
  (M.bind (M.loop (wi s1) 0) (M.exk (fun _=>
  M.pure true)))

def yh (l1:List TDot):Int -> M (M.Step Int (M.Ex Unit Bool)):=fun v23=>
 cond ((decide (v23 < (List.length l1:Int))))
  (M.bind (cond (decide (0 < v23))
   (M.bind (M.idx l1 (IntKind.i64.wrap (v23 - 1))) fun x27=>
   M.bind (M.idx l1 v23) fun x29=>
   M.bind (M.det (we x27 x29)) fun v31=>
   M.pure (decide (0 <= v31)))
   (M.pure false)) (fun v25=>
  cond v25
   (M.pure (.done (.ret false)))
   (M.pure (.next (IntKind.i64.wrap (v23 + 1))))))
  (M.pure (.done (.brk ())))
def Xl (l1:List TDot):M Bool:=
 M.bind (M.loop (yh l1) 0) (M.exk (fun _=>
 M.pure true))

def wj (e1:TEvent):Int -> M (M.Step Int (M.Ex Unit Bool)):=fun v43=>
 cond ((decide (v43 < (List.length e1.kills:Int))))
  (M.bind (M.idx e1.kills v43) fun x45=>
  M.bind (M.bind (M.det (ZH x45)) fun v48=>
  cond (!v48)
   (M.pure true)
   (M.pure (((decide (x45.dev = e1.dot.dev) && decide (x45.n = e1.dot.n)))))) (fun v47=>
  cond v47
   (M.pure (.done (.ret false)))
   (M.pure (.next (IntKind.i64.wrap (v43 + 1))))))
  (M.pure (.done (.brk ())))
def vH (e1:TEvent):M Bool:=
 M.bind (M.det (Xi e1.cid)) fun v2=>
 M.bind (cond (!v2.2)
  (M.pure true)
  (M.bind (M.det (ZH e1.dot)) fun v6=>
  M.pure (!v6))) (fun v4=>
 cond v4
  (M.pure false)
  (M.bind (cond (decide (e1.kind = 1))
   (M.bind (M.bind (M.det (Xj e1.field)) fun v11=>
   cond (!v11)
    (M.pure true)
    (M.bind (M.det (Xk e1.text)) fun v14=>
    M.pure (!v14))) (fun v10=>
   cond v10
    (M.pure (.ret false))
    (M.pure (.brk ()))))
   (cond (decide (e1.kind = 2))
    (M.bind (cond (!decide (e1.field = 0))
     (M.pure true)
     (M.pure ((!decide (e1.text = (⟨#[]⟩:ByteArray)))))) (fun v18=>
    cond v18
     (M.pure (.ret false))
     (M.pure (.brk ()))))
    (M.pure (.ret false)))) (M.exk (fun _=>
  M.bind (cond ((decide (256 < (List.length e1.kills:Int))))
   (M.pure true)
   (M.bind (M.det (Xl e1.kills)) fun v23=>
   M.pure (!v23))) (fun v21=>
  cond v21
   (M.pure false)
   (M.bind (M.loop (wj e1) 0) (M.exk (fun _=>
   M.pure true))))))))

def yE (s1:List TDot) (v2:TDot):Int -> M (M.Step Int (M.Ex Unit Int)):=fun v12=>
 cond ((decide (v12 < (List.length s1:Int))))
  (M.bind (M.idx s1 v12) fun x14=>
  cond (((decide (v2.dev = x14.dev) && decide (v2.n = x14.n))))
   (M.pure (.done (.ret v12)))
   (M.pure (.next (IntKind.i64.wrap (v12 + 1)))))
  (M.pure (.done (.brk ())))
def yu (s1:List TDot) (v2:TDot):M Int:=
 M.bind (M.loop (yE s1 v2) 0) (M.exk (fun _=>
 M.pure (-1)))

def yY (s1:List TDot) (v2:TDot):M Bool:=
 M.bind (M.det (yu s1 v2)) fun v3=>
 M.pure (decide (0 <= v3))

def Jy (l1:List TDot) (d2:TDot):M Bool:=
 M.bind (M.det (yY l1 d2)) fun v3=>
 M.pure v3

def WN (e1:TEvent) (d2:TDot):M Bool:=
 M.bind (M.det (Jy e1.kills d2)) fun v3=>
 M.pure v3

def uF (l1:List TEvent) (d2:TDot):Int -> M (M.Step Int (M.Ex Unit Bool)):=fun v16=>
 cond ((decide (v16 < (List.length l1:Int))))
  (M.bind (M.idx l1 v16) fun x18=>
  M.bind (M.det (WN x18 d2)) fun v20=>
  cond v20
   (M.pure (.done (.ret true)))
   (M.pure (.next (IntKind.i64.wrap (v16 + 1)))))
  (M.pure (.done (.brk ())))
def wW (l1:List TEvent) (d2:TDot):M Bool:=
 M.bind (M.loop (uF l1 d2) 0) (M.exk (fun _=>
 M.pure false))

def uY (x1:TRun) (n2:Int):M Int:=
 M.bind (M.det (ye x1.hi n2)) fun v3=>
 M.pure v3

def zS (x1:List TRun) (target2:Int):Int × Int -> M (M.Step (Int × Int) Int):=fun ⟨i18,j19⟩=>
 cond (decide (i18 < j19))
  (M.bind (M.idx x1 ((IntKind.i64.wrap ((Int.fdiv ((IntKind.u64.wrap (IntKind.i64.wrap (i18 + j19)))) (2 ^ 1)))))) fun x21=>
  M.bind (M.det (uY x21 target2)) fun v23=>
  cond (decide (v23 < 0))
   (M.pure (.next (((IntKind.i64.wrap (((IntKind.i64.wrap ((Int.fdiv ((IntKind.u64.wrap (IntKind.i64.wrap (i18 + j19)))) (2 ^ 1))))) + 1)),j19))))
   (M.pure (.next ((i18,(IntKind.i64.wrap ((Int.fdiv ((IntKind.u64.wrap (IntKind.i64.wrap (i18 + j19)))) (2 ^ 1)))))))))
  (M.pure (.done i18))
def zP (x1:List TRun) (target2:Int):M (Int × Bool):=
 M.bind (M.loop (zS x1 target2) (0,(List.length x1:Int))) (fun i3=>
 M.bind (cond ((decide (i3 < (List.length x1:Int))))
  (M.bind (M.idx x1 i3) fun x28=>
  M.bind (M.det (uY x28 target2)) fun v30=>
  M.pure (decide (v30 = 0)))
  (M.pure false)) (fun v26=>
 M.pure (i3,v26)))

def UQ (l1:List TRun) (n2:Int):M Bool:=
 M.bind (M.det (xP l1)) fun v3=>
 M.bind (M.det (zP v3 n2)) fun v5=>
 M.bind (cond ((decide (v5.1 < (List.length v3:Int))))
  (M.bind (M.idx v3 v5.1) fun x9=>
  M.pure (decide (x9.lo <= n2)))
  (M.pure false)) (fun v7=>
 M.pure v7)

def UR (c1:List TPart) (dev2:Int):M (List TRun):=
 M.bind (M.det (YI c1)) fun v3=>
 M.bind (M.det (xP (AL.getZ v3 dev2 ([]:List TRun)))) fun v6=>
 M.pure v6

def jC (c1:List TPart) (d2:TDot):M Bool:=
 M.bind (cond (decide (0 < d2.dev))
  (M.bind (M.det (UR c1 d2.dev)) fun v5=>
  M.bind (M.det (UQ v5 d2.n)) fun v7=>
  M.pure v7)
  (M.pure false)) (fun v3=>
 M.pure v3)

def uG (l1:List TDot) (c2:List TPart) (has3:Bool):Int × List TDot -> M (M.Step (Int × List TDot) (List TDot)):=fun ⟨v23,out24⟩=>
 cond ((decide (v23 < (List.length l1:Int))))
  (M.bind (M.bind (M.idx l1 v23) fun x27=>
  M.bind (M.det (jC c2 x27)) fun v29=>
  cond (v29 == has3)
   (M.need ((List.length out24 + List.length ([x27])) * 16 <= 140737488355328) <|
   M.pure (out24 ++ [x27]))
   (M.pure out24)) (fun out26=>
  M.pure (.next (((IntKind.i64.wrap (v23 + 1)),out26)))))
  (M.pure (.done out24))
def Va (l1:List TDot) (c2:List TPart) (has3:Bool):M (List TDot):=
 M.bind (M.loop (uG l1 c2 has3) (0,([]:List TDot))) (fun out4=>
 M.bind (M.det (XZ out4)) fun v33=>
 M.pure v33)

def Zj (l1:List TDot) (c2:List TPart):M (List TDot):=
 M.bind (M.det (Va l1 c2 false)) fun v3=>
 M.pure v3

def uH (l1:List TEvent):Int × List TDot -> M (M.Step (Int × List TDot) (List TDot)):=fun ⟨v15,out16⟩=>
 cond ((decide (v15 < (List.length l1:Int))))
  (M.bind (M.idx l1 v15) fun x18=>
  M.need ((List.length out16 + List.length ([x18.dot])) * 16 <= 140737488355328) <|
  M.need ((List.length (out16 ++ [x18.dot]) + List.length x18.kills) * 16 <= 140737488355328) <|
  M.pure (.next (((IntKind.i64.wrap (v15 + 1)),((out16 ++ [x18.dot]) ++ x18.kills)))))
  (M.pure (.done out16))
def Zk (l1:List TEvent):M (List TDot):=
 M.bind (M.loop (uH l1) (0,([]:List TDot))) (fun out2=>
 M.bind (M.det (XZ out2)) fun v22=>
 M.pure v22)

def ZK :List TRun × List TRun × List TRun -> M (M.Step (List TRun × List TRun × List TRun) (List TRun)):=fun ⟨a53,b54,out55⟩=>
 M.bind (cond ((decide (0 < (List.length a53:Int))))
  (M.pure ((decide (0 < (List.length b54:Int)))))
  (M.pure false)) (fun v56=>
 cond v56
  (M.bind (M.idx a53 0) fun x59=>
  M.bind (M.idx b54 0) fun x61=>
  M.bind (M.idx a53 0) fun x63=>
  M.bind (M.idx b54 0) fun x65=>
  M.bind (cond ((decide ((max x59.lo x61.lo) <= (min x63.hi x65.hi))))
   (M.need ((List.length out55 + List.length ([(⟨(max x59.lo x61.lo),(min x63.hi x65.hi)⟩:TRun)])) * 16 <= 140737488355328) <|
   M.pure ((out55 ++ [(⟨(max x59.lo x61.lo),(min x63.hi x65.hi)⟩:TRun)])))
   (M.pure out55)) (fun out67=>
  M.bind (M.idx a53 0) fun x70=>
  M.bind (M.idx b54 0) fun x72=>
  cond (decide (x70.hi < x72.hi))
   (M.need ((0:Int) <= 1 /\ (1:Int) <= (List.length a53:Int) /\ (List.length a53:Int) <= (List.length a53:Int)) <|
   M.pure (.next (((List.drop (Int.toNat 1) (List.take (Int.toNat (List.length a53:Int)) a53)),b54,out67))))
   (M.need ((0:Int) <= 1 /\ (1:Int) <= (List.length b54:Int) /\ (List.length b54:Int) <= (List.length b54:Int)) <|
   M.pure (.next ((a53,(List.drop (Int.toNat 1) (List.take (Int.toNat (List.length b54:Int)) b54)),out67))))))
  (M.pure (.done out55)))
def Wj (a1:List TRun) (b2:List TRun):M (List TRun):=
 M.bind (M.det (xP a1)) fun v3=>
 M.bind (M.det (xP b2)) fun v5=>
 M.bind (M.loop ZK (v3,v5,([]:List TRun))) (fun out7=>
 M.pure out7)

def ZL (v2:List TRun):Int × Int × List TRun -> M (M.Step (Int × Int × List TRun) (Int × List TRun)):=fun ⟨at17,v18,out19⟩=>
 cond ((decide (v18 < ((List.length v2):Int))))
  (M.bind (M.idx v2 v18) fun x21=>
  M.need ((List.length out19 + List.length ([(⟨at17,(IntKind.u64.wrap (x21.lo - 1))⟩:TRun)])) * 16 <= 140737488355328) <|
  M.pure (.next (((IntKind.u64.wrap (x21.hi + 1)),(IntKind.i64.wrap (v18 + 1)),(out19 ++ [(⟨at17,(IntKind.u64.wrap (x21.lo - 1))⟩:TRun)])))))
  (M.pure (.done (at17,out19)))
def Wk (l1:List TRun):M (List TRun):=
 M.bind (M.det (xP l1)) fun v2=>
 M.bind (M.loop (ZL v2) (1,0,([]:List TRun))) (fun ⟨at4,out5⟩=>
 M.need ((List.length out5 + List.length ([(⟨at4,281474976710655⟩:TRun)])) * 16 <= 140737488355328) <|
 M.pure (out5 ++ [(⟨at4,281474976710655⟩:TRun)]))

def Zl (a1:List TRun) (b2:List TRun):M (List TRun):=
 M.bind (M.det (Wk b2)) fun v3=>
 M.bind (M.det (Wj a1 v3)) fun v5=>
 M.pure v5

def vD (v6:List (Int × List TRun)):List Nat × (List (Int × List TRun)) -> M (M.Step (List Nat × (List (Int × List TRun))) (List (Int × List TRun))):=fun ⟨seen32,v33⟩=>
 M.need (∀ i ∈ seen32,i < List.length v33)<|M.bind (M.nxt (List.length v33) seen32) fun o=>match o with
 | none=>
  M.pure (.done v33)
 | some j34=>
  M.bind (M.idx v33 (Int.ofNat j34)) fun kv38=>
  M.bind (M.det (Zl kv38.2 (AL.getZ v6 kv38.1 ([]:List TRun)))) fun v40=>
  M.need (AL.has v33 kv38.1 = true) <|
  M.pure (.next ((seen32 ++ [j34]),(AL.set v33 kv38.1 v40)))
def wG (a1:List TPart) (b2:List TPart):M (List TPart):=
 M.bind (M.det (YI a1)) fun v3=>
 M.bind (M.det (YI b2)) fun v6=>
 M.bind (M.loop (vD v6) ([],v3)) (fun v9=>
 M.bind (M.det (uU v9)) fun v44=>
 M.pure v44)

def Wl (a1:List TPart) (b2:List TPart):M (List TPart):=
 M.bind (M.det (wG a1 b2)) fun v3=>
 M.pure v3

def Xm (a1:List TPart) (b2:List TPart):M Bool:=
 M.bind (M.det (Wl a1 b2)) fun v3=>
 M.pure ((decide (((List.length v3):Int) = 0)))

def wk (d1:TDelta):Int -> M (M.Step Int (M.Ex Unit Bool)):=fun v58=>
 cond ((decide (v58 < (List.length d1.events:Int))))
  (M.bind (M.idx d1.events v58) fun x60=>
  M.bind (M.bind (M.det (vH x60)) fun v63=>
  cond (!v63)
   (M.pure true)
   (M.bind (M.det (jC d1.from_ x60.dot)) fun v66=>
   M.pure v66)) (fun v62=>
  cond v62
   (M.pure (.done (.ret false)))
   (M.bind (cond (decide (0 < v58))
    (M.bind (M.idx d1.events (IntKind.i64.wrap (v58 - 1))) fun x71=>
    M.bind (M.det (we x71.dot x60.dot)) fun v73=>
    M.pure (decide (0 <= v73)))
    (M.pure false)) (fun v69=>
   cond v69
    (M.pure (.done (.ret false)))
    (M.bind (cond (decide (x60.kind = 1))
     (M.bind (M.det (wW d1.events x60.dot)) fun v78=>
     M.pure v78)
     (M.pure false)) (fun v76=>
    cond v76
     (M.pure (.done (.ret false)))
     (M.pure (.next (IntKind.i64.wrap (v58 + 1))))))))))
  (M.pure (.done (.brk ())))
def Zm (d1:TDelta):M Bool:=
 M.bind (M.bind (M.det (vV d1.from_)) fun v3=>
 cond (!v3)
  (M.pure true)
  (M.bind (M.det (vV d1.to_)) fun v6=>
  cond (!v6)
   (M.pure true)
   (M.bind (M.det (Xm d1.from_ d1.to_)) fun v9=>
   cond (!v9)
    (M.pure true)
    (M.pure ((decide (4096 < (List.length d1.events:Int)))))))) (fun v2=>
 cond v2
  (M.pure false)
  (M.bind (M.loop (wk d1) 0) (M.exk (fun _=>
  M.bind (M.det (Zk d1.events)) fun v81=>
  M.bind (M.det (Zj v81 d1.to_)) fun v83=>
  M.pure ((decide ((List.length v83:Int) = 0)))))))

def YQ (c1:List TPart):M Bool:=
 M.bind (M.det (ZJ c1)) fun v2=>
 M.bind (M.det (Vx c1 v2)) fun v4=>
 M.pure v4

def Wm (a1:List TPart) (b2:List TPart):M (List TPart):=
 M.bind (M.det (jA a1 b2 2)) fun v3=>
 M.pure v3

def Xn (a1:List TPart) (b2:List TPart):M Bool:=
 M.bind (M.det (Wm a1 b2)) fun v3=>
 M.pure ((decide (((List.length v3):Int) = 0)))

def uI (d1:TDot):M Bool:=
 M.bind (cond (decide (1 <= d1.dev))
  (cond (decide (1 <= d1.n))
   (M.pure (decide (d1.n < 281474976710656)))
   (M.pure false))
  (M.pure false)) (fun v2=>
 M.pure v2)

def Wn (v1:Int):M (Int × Int):=
 M.pure (((IntKind.u16.wrap (IntKind.u64.wrap (Int.tdiv v1 281474976710656))),(Int.tmod v1 281474976710656)))

def Xo (v1:Int):M (TDot × Bool):=
 M.bind (M.det (Wn v1)) fun v2=>
 M.bind (M.det (uI (⟨v2.1,v2.2⟩:TDot))) fun v4=>
 cond (!v4)
  (M.pure ((⟨0,0⟩:TDot),false))
  (M.pure ((⟨v2.1,v2.2⟩:TDot),true))

def US (f1:Int):M Bool:=
 M.bind (cond (decide (1 <= f1))
  (M.pure (decide (f1 <= 5)))
  (M.pure false)) (fun v2=>
 M.pure v2)

def uZ (s1:ByteArray):Int -> M (M.Step Int (M.Ex Unit Bool)):=fun i19=>
 cond ((decide (i19 < (ByteArray.size s1:Int))))
  (M.bind (M.bind (M.idx (yW s1) i19) fun b22=>
  cond (decide (b22 < 32))
   (M.pure true)
   (M.bind (M.idx (yW s1) i19) fun b25=>
   M.pure (decide (126 < b25)))) (fun v21=>
  cond v21
   (M.pure (.done (.ret false)))
   (M.pure (.next (IntKind.i64.wrap (i19 + 1))))))
  (M.pure (.done (.brk ())))
def UT (s1:ByteArray):M Bool:=
 M.bind (M.loop (uZ s1) 0) (M.exk (fun _=>
 M.pure ((decide ((ByteArray.size s1:Int) <= 60)))))

def xe (l1:List TDot):Int -> M (M.Step Int (M.Ex Unit Bool)):=fun i19=>
 cond ((decide (i19 < (List.length l1:Int))))
  (M.bind (M.idx l1 (IntKind.i64.wrap (i19 - 1))) fun x21=>
  M.bind (M.idx l1 i19) fun x23=>
  M.bind (M.det (wh x21 x23)) fun v25=>
  cond (decide (0 <= v25))
   (M.pure (.done (.ret false)))
   (M.pure (.next (IntKind.i64.wrap (i19 + 1)))))
  (M.pure (.done (.brk ())))
def Xp (l1:List TDot):M Bool:=
 M.bind (M.loop (xe l1) 1) (M.exk (fun _=>
 M.pure true))

def Xq (l1:List TDot) (d2:TDot):Int -> M (M.Step Int (M.Ex Unit Bool)):=fun i12=>
 cond ((decide (i12 < (List.length l1:Int))))
  (M.bind (M.idx l1 i12) fun x14=>
  cond (((decide (x14.dev = d2.dev) && decide (x14.n = d2.n))))
   (M.pure (.done (.ret true)))
   (M.pure (.next (IntKind.i64.wrap (i12 + 1)))))
  (M.pure (.done (.brk ())))
def jD (l1:List TDot) (d2:TDot):M Bool:=
 M.bind (M.loop (Xq l1 d2) 0) (M.exk (fun _=>
 M.pure false))

def ua (e1:TEvent):Int -> M (M.Step Int (M.Ex Unit Bool)):=fun i37=>
 cond ((decide (i37 < (List.length e1.kills:Int))))
  (M.bind (M.idx e1.kills i37) fun x39=>
  M.bind (M.det (uI x39)) fun v41=>
  cond (!v41)
   (M.pure (.done (.ret false)))
   (M.pure (.next (IntKind.i64.wrap (i37 + 1)))))
  (M.pure (.done (.brk ())))
def YR (e1:TEvent):M Bool:=
 M.bind (M.det (Xo e1.cid)) fun v2=>
 M.bind (cond (!v2.2)
  (M.pure true)
  (M.bind (M.det (uI e1.dot)) fun v6=>
  cond (!v6)
   (M.pure true)
   (cond (!decide (e1.kind = 1))
    (M.pure (!decide (e1.kind = 2)))
    (M.pure false)))) (fun v4=>
 cond v4
  (M.pure false)
  (M.bind (cond (decide (e1.kind = 1))
   (M.bind (M.det (US e1.field)) fun v13=>
   cond (!v13)
    (M.pure true)
    (M.bind (M.det (UT e1.text)) fun v16=>
    cond (!v16)
     (M.pure true)
     (cond (decide (e1.kind = 2))
      (cond (!decide (e1.field = 0))
       (M.pure true)
       (M.pure ((!decide (e1.text = (⟨#[]⟩:ByteArray))))))
      (M.pure false))))
   (cond (decide (e1.kind = 2))
    (cond (!decide (e1.field = 0))
     (M.pure true)
     (M.pure ((!decide (e1.text = (⟨#[]⟩:ByteArray))))))
    (M.pure false))) (fun v11=>
  cond v11
   (M.pure false)
   (M.bind (M.loop (ua e1) 0) (M.exk (fun _=>
   M.bind (cond ((decide ((List.length e1.kills:Int) <= 256)))
    (M.bind (M.det (Xp e1.kills)) fun v46=>
    cond v46
     (M.bind (M.det (jD e1.kills e1.dot)) fun v49=>
     M.pure (!v49))
     (M.pure false))
    (M.pure false)) (fun v44=>
   M.pure v44)))))))

def Vb (c1:List TPart) (d2:TDot):M Bool:=
 M.bind (M.bind (M.det (uI d2)) fun v4=>
 cond v4
  (M.bind (M.det (Xe c1 d2.dev)) fun v7=>
  M.bind (M.det (VY v7 d2.n)) fun v9=>
  M.pure v9)
  (M.pure false)) (fun v3=>
 M.pure v3)

def YS (l1:List TEvent) (d2:TDot):Int -> M (M.Step Int (M.Ex Unit Bool)):=fun i16=>
 cond ((decide (i16 < (List.length l1:Int))))
  (M.bind (M.idx l1 i16) fun x18=>
  M.bind (M.det (jD x18.kills d2)) fun v20=>
  cond v20
   (M.pure (.done (.ret true)))
   (M.pure (.next (IntKind.i64.wrap (i16 + 1)))))
  (M.pure (.done (.brk ())))
def YT (l1:List TEvent) (d2:TDot):M Bool:=
 M.bind (M.loop (YS l1 d2) 0) (M.exk (fun _=>
 M.pure false))

def YU (l1:List TDot) (c2:List TPart):List TDot × Int -> M (M.Step (List TDot × Int) (List TDot)):=fun ⟨out28,i29⟩=>
 cond ((decide (i29 < (List.length l1:Int))))
  (M.bind (M.bind (M.idx l1 i29) fun x32=>
  M.bind (M.det (Vb c2 x32)) fun v34=>
  cond (!v34)
   (M.bind (M.idx l1 i29) fun x37=>
   M.bind (M.det (YM out28 x37)) fun v39=>
   M.pure v39)
   (M.pure out28)) (fun out31=>
  M.pure (.next ((out31,(IntKind.i64.wrap (i29 + 1)))))))
  (M.pure (.done out28))
def Wo (l1:List TDot) (c2:List TPart):M (List TDot):=
 M.bind (M.loop (YU l1 c2) (([]:List TDot),0)) (fun out3=>
 M.pure out3)

def ub (l1:List TEvent) (i80:Int):List TDot × Int -> M (M.Step (List TDot × Int) (List TDot)):=fun ⟨out107,k108⟩=>
 M.bind (M.idx l1 i80) fun x109=>
 cond ((decide (k108 < (List.length x109.kills:Int))))
  (M.bind (M.idx l1 i80) fun x112=>
  M.bind (M.idx x112.kills k108) fun x114=>
  M.bind (M.det (YM out107 x114)) fun v116=>
  M.pure (.next ((v116,(IntKind.i64.wrap (k108 + 1))))))
  (M.pure (.done out107))
def YV (l1:List TEvent):List TDot × Int -> M (M.Step (List TDot × Int) (List TDot)):=fun ⟨out79,i80⟩=>
 cond ((decide (i80 < (List.length l1:Int))))
  (M.bind (M.bind (M.idx l1 i80) fun x83=>
  M.bind (M.det (YM out79 x83.dot)) fun v85=>
  M.loop (ub l1 i80) (v85,0)) (fun out82=>
  M.pure (.next ((out82,(IntKind.i64.wrap (i80 + 1)))))))
  (M.pure (.done out79))
def Wp (l1:List TEvent):M (List TDot):=
 M.bind (M.loop (YV l1) (([]:List TDot),0)) (fun out2=>
 M.pure out2)

def uc (d1:TDelta):Int -> M (M.Step Int (M.Ex Unit Bool)):=fun i66=>
 cond ((decide (i66 < (List.length d1.events:Int))))
  (M.bind (M.idx d1.events i66) fun x68=>
  M.bind (M.bind (M.det (YR x68)) fun v71=>
  cond (!v71)
   (M.pure true)
   (cond (decide (0 < i66))
    (M.bind (M.idx d1.events (IntKind.i64.wrap (i66 - 1))) fun x75=>
    M.bind (M.det (wh x75.dot x68.dot)) fun v77=>
    cond (decide (0 <= v77))
     (M.pure true)
     (M.bind (M.det (Vb d1.from_ x68.dot)) fun v80=>
     cond v80
      (M.pure true)
      (cond (decide (x68.kind = 1))
       (M.bind (M.det (YT d1.events x68.dot)) fun v84=>
       M.pure v84)
       (M.pure false))))
    (M.bind (M.det (Vb d1.from_ x68.dot)) fun v86=>
    cond v86
     (M.pure true)
     (cond (decide (x68.kind = 1))
      (M.bind (M.det (YT d1.events x68.dot)) fun v90=>
      M.pure v90)
      (M.pure false))))) (fun v70=>
  cond v70
   (M.pure (.done (.ret false)))
   (M.pure (.next (IntKind.i64.wrap (i66 + 1))))))
  (M.pure (.done (.brk ())))
def Xr (d1:TDelta):M Bool:=
 M.bind (M.bind (M.det (YQ d1.from_)) fun v3=>
 cond (!v3)
  (M.pure true)
  (M.bind (M.det (YQ d1.to_)) fun v6=>
  cond (!v6)
   (M.pure true)
   (M.bind (M.det (Xn d1.from_ d1.to_)) fun v9=>
   cond (!v9)
    (M.pure true)
    (M.pure ((decide (4096 < (List.length d1.events:Int)))))))) (fun v2=>
 cond v2
  (M.pure false)
  (M.bind (M.loop (uc d1) 0) (M.exk (fun _=>
  M.bind (M.det (Wp d1.events)) fun v93=>
  M.bind (M.det (Wo v93 d1.to_)) fun v95=>
  M.pure ((decide ((List.length v95:Int) = 0)))))))

def ud (x7:Int) (b1:List Int) (at2:Int):Int × Int -> M (M.Step (Int × Int) Int):=fun ⟨v26,i27⟩=>
 cond ((decide (i27 <= (IntKind.i64.wrap x7))))
  (M.bind (M.idx b1 (IntKind.i64.wrap (at2 + i27))) fun x29=>
  M.pure (.next (((IntKind.u64.wrap ((IntKind.u64.wrap (v26 * 256)) + (IntKind.u64.wrap x29))),(IntKind.i64.wrap (i27 + 1))))))
  (M.pure (.done v26))
def UU (b1:List Int) (at2:Int):M (Int × Int × Int):=
 M.bind (cond (decide (at2 < 0))
  (M.pure true)
  (M.pure ((decide ((List.length b1:Int) < at2))))) (fun v3=>
 cond v3
  (M.pure (0,0,1))
  (cond ((decide (at2 = (List.length b1:Int))))
   (M.pure (0,0,2))
   (M.bind (M.idx b1 at2) fun x7=>
   M.bind (cond ((decide (8 < (IntKind.i64.wrap x7))))
    (M.pure true)
    (cond ((decide (0 < (IntKind.i64.wrap x7))))
     (cond ((decide (0 < ((IntKind.i64.wrap (((IntKind.i64.wrap ((List.length b1:Int) - at2))) - 1))))))
      (M.bind (M.idx b1 (IntKind.i64.wrap (at2 + 1))) fun x13=>
      M.pure (decide (x13 = 0)))
      (M.pure false))
     (M.pure false))) (fun v9=>
   cond v9
    (M.pure (0,0,4))
    (cond ((decide (((IntKind.i64.wrap (((IntKind.i64.wrap ((List.length b1:Int) - at2))) - 1))) < (IntKind.i64.wrap x7))))
     (M.pure (0,0,2))
     (M.bind (M.loop (ud x7 b1 at2) (0,1)) (fun v17=>
     M.pure ((v17,(IntKind.i64.wrap ((IntKind.i64.wrap (at2 + 1)) + (IntKind.i64.wrap x7))),0)))))))))

def YW (l2:List TEvent):Int -> M (M.Step Int (M.Ex Unit Bool)):=fun i64=>
 cond ((decide (i64 < (List.length l2:Int))))
  (M.bind (M.bind (M.idx l2 i64) fun x67=>
  M.bind (M.det (YR x67)) fun v69=>
  cond (!v69)
   (M.pure true)
   (cond (decide (0 < i64))
    (M.bind (M.idx l2 (IntKind.i64.wrap (i64 - 1))) fun x73=>
    M.bind (M.idx l2 i64) fun x75=>
    M.bind (M.det (wh x73.dot x75.dot)) fun v77=>
    cond (decide (0 <= v77))
     (M.pure true)
     (M.bind (M.idx l2 i64) fun x80=>
     cond (decide (x80.kind = 1))
      (M.bind (M.idx l2 i64) fun x83=>
      M.bind (M.det (YT l2 x83.dot)) fun v85=>
      M.pure v85)
      (M.pure false)))
    (M.bind (M.idx l2 i64) fun x87=>
    cond (decide (x87.kind = 1))
     (M.bind (M.idx l2 i64) fun x90=>
     M.bind (M.det (YT l2 x90.dot)) fun v92=>
     M.pure v92)
     (M.pure false)))) (fun v66=>
  cond v66
   (M.pure (.done (.ret false)))
   (M.pure (.next (IntKind.i64.wrap (i64 + 1))))))
  (M.pure (.done (.brk ())))
def UV (c1:List TPart) (l2:List TEvent):M Bool:=
 M.bind (M.loop (YW l2) 0) (M.exk (fun _=>
 M.bind (M.bind (M.det (YQ c1)) fun v96=>
 cond v96
  (M.bind (M.det (Wp l2)) fun v99=>
  M.bind (M.det (Wo v99 c1)) fun v101=>
  M.pure ((decide ((List.length v101:Int) = 0))))
  (M.pure false)) (fun v95=>
 M.pure v95)))

def zD (e1:Int) (b_2:List Int) (at_3:Int) (bad_4:Int):M (List Int × Int × Int):=
 cond (decide (bad_4 = 0))
  (M.pure (b_2,at_3,e1))
  (M.pure (b_2,at_3,bad_4))

def zI (b_1:List Int) (at_2:Int) (bad_3:Int):M (Int × List Int × Int × Int):=
 cond (!decide (bad_3 = 0))
  (M.pure (0,b_1,at_2,bad_3))
  (M.bind (M.det (UU b_1 at_2)) fun v5=>
  cond (!decide (v5.2.2 = 0))
   (M.bind (M.det (zD v5.2.2 b_1 at_2 bad_3)) fun y8=>
   M.pure (0,y8.1,y8.2.1,y8.2.2))
   (M.pure (v5.1,b_1,v5.2.1,bad_3)))

def zh (most1:Int) (b_2:List Int) (at_3:Int) (bad_4:Int):M (Int × List Int × Int × Int):=
 M.bind (M.det (zI b_2 at_3 bad_4)) fun y5=>
 cond (decide (most1 < y5.1))
  (M.bind (M.det (zD 4 y5.2.1 y5.2.2.1 y5.2.2.2)) fun y8=>
  M.pure (0,y8.1,y8.2.1,y8.2.2))
  (M.pure (y5.1,y5.2.1,y5.2.2.1,y5.2.2.2))

def yi (y135:Int × List Int × Int × Int):Int × List TRun × List Int × Int × Int -> M (M.Step (Int × List TRun × List Int × Int × Int) (List TRun × List Int × Int × Int)):=fun ⟨k164,p165,v166,v167,v168⟩=>
 M.bind (cond (decide (k164 < y135.1))
  (M.pure (decide (v168 = 0)))
  (M.pure false)) (fun v169=>
 cond v169
  (M.bind (M.det (zI v166 v167 v168)) fun y172=>
  M.need ((List.length ([]:List TRun) + List.length p165) * 16 <= 140737488355328) <|
  M.bind (M.det (zI y172.2.1 y172.2.2.1 y172.2.2.2)) fun y175=>
  M.need ((List.length (([]:List TRun) ++ p165) + List.length ([(⟨y172.1,y175.1⟩:TRun)])) * 16 <= 140737488355328) <|
  M.pure (.next (((IntKind.u64.wrap (k164 + 1)),((([]:List TRun) ++ p165) ++ [(⟨y172.1,y175.1⟩:TRun)]),y175.2.1,y175.2.2.1,y175.2.2.2))))
  (M.pure (.done (p165,v166,v167,v168))))
def yt (y4:Int × List Int × Int × Int):Int × List TPart × List Int × Int × Int -> M (M.Step (Int × List TPart × List Int × Int × Int) (List TPart × List Int × Int × Int)):=fun ⟨i121,out122,v123,v124,v125⟩=>
 M.bind (cond (decide (i121 < y4.1))
  (M.pure (decide (v125 = 0)))
  (M.pure false)) (fun v126=>
 cond v126
  (M.bind (M.bind (M.det (zh 65535 v123 v124 v125)) fun y133=>
  M.bind (M.det (zI y133.2.1 y133.2.2.1 y133.2.2.2)) fun y135=>
  M.bind (M.loop (yi y135) (0,([]:List TRun),y135.2.1,y135.2.2.1,y135.2.2.2)) (fun ⟨p137,v138,v139,v140⟩=>
  M.need ((List.length out122 + List.length ([(⟨(IntKind.u16.wrap y133.1),p137⟩:TPart)])) * 32 <= 140737488355328) <|
  M.pure (((out122 ++ [(⟨(IntKind.u16.wrap y133.1),p137⟩:TPart)]),v138,v139,v140)))) (fun ⟨out129,v130,v131,v132⟩=>
  M.pure (.next (((IntKind.u64.wrap (i121 + 1)),out129,v130,v131,v132)))))
  (M.pure (.done (out122,v123,v124,v125))))
def ue (b_1:List Int) (at_2:Int) (bad_3:Int):M (List TPart × List Int × Int × Int):=
 M.bind (M.det (zI b_1 at_2 bad_3)) fun y4=>
 M.bind (M.loop (yt y4) (0,([]:List TPart),y4.2.1,y4.2.2.1,y4.2.2.2)) (fun ⟨out6,v7,v8,v9⟩=>
 M.bind (cond (decide (v9 = 0))
  (M.bind (M.det (YQ out6)) fun v182=>
  M.pure (out6,(!v182)))
  (M.pure (out6,false))) (fun ⟨out179,v180⟩=>
 M.bind (cond v180
  (M.bind (M.det (zD 4 v7 v8 v9)) fun y188=>
  M.pure (y188.1,y188.2.1,y188.2.2))
  (M.pure (v7,v8,v9))) (fun ⟨v184,v185,v186⟩=>
 cond (!decide (v186 = 0))
  (M.pure (([]:List TPart),v184,v185,v186))
  (M.pure (out179,v184,v185,v186)))))

def Zn (b_1:List Int) (at_2:Int) (bad_3:Int):M (TDot × List Int × Int × Int):=
 M.bind (M.det (zh 65535 b_1 at_2 bad_3)) fun y4=>
 M.bind (M.det (zI y4.2.1 y4.2.2.1 y4.2.2.2)) fun y6=>
 M.bind (cond (decide (y6.2.2.2 = 0))
  (M.bind (M.det (uI (⟨(IntKind.u16.wrap y4.1),y6.1⟩:TDot))) fun v10=>
  M.pure (!v10))
  (M.pure false)) (fun v8=>
 M.bind (cond v8
  (M.bind (M.det (zD 4 y6.2.1 y6.2.2.1 y6.2.2.2)) fun y16=>
  M.pure (y16.1,y16.2.1,y16.2.2))
  (M.pure (y6.2.1,y6.2.2.1,y6.2.2.2))) (fun ⟨v12,v13,v14⟩=>
 cond (!decide (v14 = 0))
  (M.pure ((⟨0,0⟩:TDot),v12,v13,v14))
  (M.pure (((⟨(IntKind.u16.wrap y4.1),y6.1⟩:TDot),v12,v13,v14)))))

def zb (b_1:List Int) (at_2:Int) (bad_3:Int):M (Int × List Int × Int × Int):=
 cond (!decide (bad_3 = 0))
  (M.pure (0,b_1,at_2,bad_3))
  (cond ((decide ((List.length b_1:Int) <= at_2)))
   (M.bind (M.det (zD 2 b_1 at_2 bad_3)) fun y6=>
   M.pure (0,y6.1,y6.2.1,y6.2.2))
   (M.bind (M.idx b_1 ((IntKind.i64.wrap ((IntKind.i64.wrap (at_2 + 1)) - 1)))) fun x8=>
   M.pure ((x8,b_1,(IntKind.i64.wrap (at_2 + 1)),bad_3))))

def zp (most1:Int) (b_2:List Int) (at_3:Int) (bad_4:Int):M (ByteArray × List Int × Int × Int):=
 M.bind (M.det (zI b_2 at_3 bad_4)) fun y5=>
 M.bind (cond (decide (most1 < 0))
  (M.pure 0)
  (M.pure most1)) (fun most7=>
 M.bind (cond ((decide ((IntKind.u64.wrap most7) < y5.1)))
  (M.bind (M.det (zD 3 y5.2.1 y5.2.2.1 y5.2.2.2)) fun y13=>
  M.pure (y13.1,y13.2.1,y13.2.2))
  (M.pure (y5.2.1,y5.2.2.1,y5.2.2.2))) (fun ⟨v9,v10,v11⟩=>
 M.bind (cond (decide (v11 = 0))
  (M.pure ((decide (((IntKind.u64.wrap ((IntKind.i64.wrap ((List.length v9:Int) - v10))))) < y5.1))))
  (M.pure false)) (fun v15=>
 M.bind (cond v15
  (M.bind (M.det (zD 2 v9 v10 v11)) fun y21=>
  M.pure (y21.1,y21.2.1,y21.2.2))
  (M.pure (v9,v10,v11))) (fun ⟨v17,v18,v19⟩=>
 cond (!decide (v19 = 0))
  (M.pure ((⟨#[]⟩:ByteArray),v17,v18,v19))
  (M.need ((0:Int) <= v18 /\ (v18:Int) <= ((IntKind.i64.wrap (v18 + (IntKind.i64.wrap y5.1)))) /\ ((IntKind.i64.wrap (v18 + (IntKind.i64.wrap y5.1)))) <= (List.length v17:Int)) <|
  M.pure (((strL ((List.drop (Int.toNat v18) (List.take (Int.toNat ((IntKind.i64.wrap (v18 + (IntKind.i64.wrap y5.1))))) v17)))),v17,(IntKind.i64.wrap (v18 + (IntKind.i64.wrap y5.1))),v19)))))))

def yO (y7:Int × List Int × Int × Int):Int × List TDot × List Int × Int × Int -> M (M.Step (Int × List TDot × List Int × Int × Int) (List TDot × List Int × Int × Int)):=fun ⟨i62,out63,v64,v65,v66⟩=>
 M.bind (cond (decide (i62 < y7.1))
  (M.pure (decide (v66 = 0)))
  (M.pure false)) (fun v67=>
 cond v67
  (M.bind (M.det (Zn v64 v65 v66)) fun y70=>
  M.bind (cond (decide (y70.2.2.2 = 0))
   (cond ((decide (0 <= ((IntKind.i64.wrap (((List.length out63):Int) - 1))))))
    (M.bind (M.idx out63 ((IntKind.i64.wrap (((List.length out63):Int) - 1)))) fun x75=>
    M.bind (M.det (wh x75 y70.1)) fun v77=>
    M.pure (decide (0 <= v77)))
    (M.pure false))
   (M.pure false)) (fun v72=>
  M.bind (cond v72
   (M.bind (M.det (zD 4 y70.2.1 y70.2.2.1 y70.2.2.2)) fun y83=>
   M.pure (y83.1,y83.2.1,y83.2.2))
   (M.pure (y70.2.1,y70.2.2.1,y70.2.2.2))) (fun ⟨v79,v80,v81⟩=>
  M.need ((List.length out63 + List.length ([y70.1])) * 16 <= 140737488355328) <|
  M.pure (.next (((IntKind.u64.wrap (i62 + 1)),(out63 ++ [y70.1]),v79,v80,v81))))))
  (M.pure (.done (out63,v64,v65,v66))))
def Zo (most1:Int) (b_2:List Int) (at_3:Int) (bad_4:Int):M (List TDot × List Int × Int × Int):=
 M.bind (cond (decide (most1 < 0))
  (M.pure 0)
  (M.pure most1)) (fun most5=>
 M.bind (M.det (zI b_2 at_3 bad_4)) fun y7=>
 M.bind (cond ((decide ((IntKind.u64.wrap most5) < y7.1)))
  (M.bind (M.det (zD 3 y7.2.1 y7.2.2.1 y7.2.2.2)) fun y13=>
  M.pure (y13.1,y13.2.1,y13.2.2))
  (M.pure (y7.2.1,y7.2.2.1,y7.2.2.2))) (fun ⟨v9,v10,v11⟩=>
 M.bind (M.loop (yO y7) (0,([]:List TDot),v9,v10,v11)) (fun ⟨out15,v16,v17,v18⟩=>
 cond (!decide (v18 = 0))
  (M.pure (([]:List TDot),v16,v17,v18))
  (M.pure (out15,v16,v17,v18)))))

def Wq (b_1:List Int) (at_2:Int) (bad_3:Int):M (TEvent × List Int × Int × Int):=
 M.bind (M.det (Zn b_1 at_2 bad_3)) fun y4=>
 M.bind (M.det (zb y4.2.1 y4.2.2.1 y4.2.2.2)) fun y6=>
 M.bind (M.det (zI y6.2.1 y6.2.2.1 y6.2.2.2)) fun y8=>
 M.bind (M.det (zb y8.2.1 y8.2.2.1 y8.2.2.2)) fun y10=>
 M.bind (M.det (zp 60 y10.2.1 y10.2.2.1 y10.2.2.2)) fun y12=>
 M.bind (M.det (Zo 256 y12.2.1 y12.2.2.1 y12.2.2.2)) fun y14=>
 M.bind (cond (decide (y14.2.2.2 = 0))
  (M.bind (M.det (YR (⟨y4.1,y6.1,y8.1,y10.1,y12.1,y14.1⟩:TEvent))) fun v18=>
  M.pure (!v18))
  (M.pure false)) (fun v16=>
 M.bind (cond v16
  (M.bind (M.det (zD 4 y14.2.1 y14.2.2.1 y14.2.2.2)) fun y24=>
  M.pure (y24.1,y24.2.1,y24.2.2))
  (M.pure (y14.2.1,y14.2.2.1,y14.2.2.2))) (fun ⟨v20,v21,v22⟩=>
 cond (!decide (v22 = 0))
  (M.pure (((⟨(⟨0,0⟩:TDot),0,0,0,(⟨#[]⟩:ByteArray),([]:List TDot)⟩:TEvent),v20,v21,v22)))
  (M.pure ((⟨y4.1,y6.1,y8.1,y10.1,y12.1,y14.1⟩:TEvent),v20,v21,v22))))

def yA (y7:Int × List Int × Int × Int):Int × List TEvent × List Int × Int × Int -> M (M.Step (Int × List TEvent × List Int × Int × Int) (List TEvent × List Int × Int × Int)):=fun ⟨i62,out63,v64,v65,v66⟩=>
 M.bind (cond (decide (i62 < y7.1))
  (M.pure (decide (v66 = 0)))
  (M.pure false)) (fun v67=>
 cond v67
  (M.bind (M.det (Wq v64 v65 v66)) fun y70=>
  M.bind (cond (decide (y70.2.2.2 = 0))
   (cond ((decide (0 <= ((IntKind.i64.wrap (((List.length out63):Int) - 1))))))
    (M.bind (M.idx out63 ((IntKind.i64.wrap (((List.length out63):Int) - 1)))) fun x75=>
    M.bind (M.det (wh x75.dot y70.1.dot)) fun v77=>
    M.pure (decide (0 <= v77)))
    (M.pure false))
   (M.pure false)) (fun v72=>
  M.bind (cond v72
   (M.bind (M.det (zD 4 y70.2.1 y70.2.2.1 y70.2.2.2)) fun y83=>
   M.pure (y83.1,y83.2.1,y83.2.2))
   (M.pure (y70.2.1,y70.2.2.1,y70.2.2.2))) (fun ⟨v79,v80,v81⟩=>
  M.need ((List.length out63 + List.length ([y70.1])) * 80 <= 140737488355328) <|
  M.pure (.next (((IntKind.u64.wrap (i62 + 1)),(out63 ++ [y70.1]),v79,v80,v81))))))
  (M.pure (.done (out63,v64,v65,v66))))
def ve (most1:Int) (b_2:List Int) (at_3:Int) (bad_4:Int):M (List TEvent × List Int × Int × Int):=
 M.bind (cond (decide (most1 < 0))
  (M.pure 0)
  (M.pure most1)) (fun most5=>
 M.bind (M.det (zI b_2 at_3 bad_4)) fun y7=>
 M.bind (cond ((decide ((IntKind.u64.wrap most5) < y7.1)))
  (M.bind (M.det (zD 3 y7.2.1 y7.2.2.1 y7.2.2.2)) fun y13=>
  M.pure (y13.1,y13.2.1,y13.2.2))
  (M.pure (y7.2.1,y7.2.2.1,y7.2.2.2))) (fun ⟨v9,v10,v11⟩=>
 M.bind (M.loop (yA y7) (0,([]:List TEvent),v9,v10,v11)) (fun ⟨out15,v16,v17,v18⟩=>
 cond (!decide (v18 = 0))
  (M.pure (([]:List TEvent),v16,v17,v18))
  (M.pure (out15,v16,v17,v18)))))

def yZ (b_1:List Int) (at_2:Int) (bad_3:Int):M (Int × List Int × Int × Int):=
 cond (!decide (bad_3 = 0))
  (M.pure (0,b_1,at_2,bad_3))
  (M.pure (((IntKind.i64.wrap ((List.length b_1:Int) - at_2)),b_1,at_2,bad_3)))

def zt (b_1:List Int) (at_2:Int) (bad_3:Int):M (Int × List Int × Int × Int):=
 M.bind (M.det (yZ b_1 at_2 bad_3)) fun y4=>
 M.bind (cond (decide (0 < y4.1))
  (M.bind (M.det (zD 4 y4.2.1 y4.2.2.1 y4.2.2.2)) fun y10=>
  M.pure (y10.1,y10.2.1,y10.2.2))
  (M.pure (y4.2.1,y4.2.2.1,y4.2.2.2))) (fun ⟨v6,v7,v8⟩=>
 M.pure (v8,v6,v7,v8))

def Xs (b1:List Int):M (R18Book × Int):=
 M.bind (M.det (ue b1 0 0)) fun y2=>
 M.bind (M.det (ve 4096 y2.2.1 y2.2.2.1 y2.2.2.2)) fun y4=>
 M.bind (M.bind (M.det (zt y4.2.1 y4.2.2.1 y4.2.2.2)) fun y10=>
 cond (decide (y10.1 = 0))
  (M.bind (M.det (UV y2.1 y4.1)) fun v13=>
  M.pure ((!v13),y10.2.1,y10.2.2.1,y10.2.2.2))
  (M.pure (false,y10.2.1,y10.2.2.1,y10.2.2.2))) (fun ⟨v6,v7,v8,v9⟩=>
 M.bind (cond v6
  (M.bind (M.det (zD 4 v7 v8 v9)) fun y19=>
  M.pure (y19.1,y19.2.1,y19.2.2))
  (M.pure (v7,v8,v9))) (fun ⟨v15,v16,v17⟩=>
 cond (!decide (v17 = 0))
  (M.pure (((⟨([]:List TPart),([]:List TEvent)⟩:R18Book),v17)))
  (M.pure ((⟨y2.1,y4.1⟩:R18Book),0))))

def YX (l1:List TEvent) (k2:Int):Int × List TEvent -> M (M.Step (Int × List TEvent) (List TEvent)):=fun ⟨i22,out23⟩=>
 cond ((decide (i22 < (List.length l1:Int))))
  (M.bind (M.bind (M.idx l1 i22) fun x26=>
  cond (decide (x26.kind = k2))
   (M.bind (M.idx l1 i22) fun x29=>
   M.need ((List.length out23 + List.length ([x29])) * 80 <= 140737488355328) <|
   M.pure (out23 ++ [x29]))
   (M.pure out23)) (fun out25=>
  M.pure (.next (((IntKind.i64.wrap (i22 + 1)),out25)))))
  (M.pure (.done out23))
def Wr (l1:List TEvent) (k2:Int):M (List TEvent):=
 M.bind (M.loop (YX l1 k2) (0,([]:List TEvent))) (fun out3=>
 M.pure out3)

def Ws (b1:R18Book):M (List TEvent):=
 M.bind (M.det (Wr b1.l 1)) fun v2=>
 M.pure v2

def Yy (b1:R18Book):M (List TEvent):=
 M.bind (M.det (Wr b1.l 2)) fun v2=>
 M.pure v2

def Zp (b1:List Int):M (List Int × Int):=
 M.need (List.length b1 * 1 <= 140737488355328) <|
 M.pure (b1,0)

def zQ (b_1:List Int) (bad_2:Int):M (Int × List Int × Int):=
 M.pure (bad_2,b_1,bad_2)

def zJ (e1:Int) (b_2:List Int) (bad_3:Int):M (List Int × Int):=
 M.bind (cond (decide (bad_3 = 0))
  (M.pure (!decide (e1 = 0)))
  (M.pure false)) (fun v4=>
 cond v4
  (M.pure (([]:List Int),e1))
  (M.pure (b_2,bad_3)))

def yb (n1:Int) (b_2:List Int) (bad_3:Int):M (List Int × List Int × Int):=
 M.need ((0:Int) <= 0 /\ (0:Int) <= n1 /\ n1 <= (List.length b_2:Int)) <|
 M.need ((0:Int) <= n1 /\ (n1:Int) <= (List.length b_2:Int) /\ (List.length b_2:Int) <= (List.length b_2:Int)) <|
 M.pure (((List.drop (Int.toNat 0) (List.take (Int.toNat n1) b_2)),(List.drop (Int.toNat n1) (List.take (Int.toNat (List.length b_2:Int)) b_2)),bad_3))

def zU (b_1:List Int) (bad_2:Int):M (Int × List Int × Int):=
 M.bind (M.det (zQ b_1 bad_2)) fun y3=>
 cond (!decide (y3.1 = 0))
  (M.pure (0,y3.2.1,y3.2.2))
  (M.bind (M.det (UP y3.2.1 0)) fun v6=>
  cond (!decide (v6.2.2 = 0))
   (M.bind (M.det (zJ v6.2.2 y3.2.1 y3.2.2)) fun y9=>
   M.pure (0,y9.1,y9.2))
   (M.bind (M.det (yb v6.2.1 y3.2.1 y3.2.2)) fun y11=>
   M.pure (v6.1,y11.2.1,y11.2.2)))

def yj (most1:Int) (b_2:List Int) (bad_3:Int):M (Int × List Int × Int):=
 M.bind (M.det (zU b_2 bad_3)) fun y4=>
 cond (decide (most1 < y4.1))
  (M.bind (M.det (zJ 4 y4.2.1 y4.2.2)) fun y7=>
  M.pure (0,y7.1,y7.2))
  (M.pure (y4.1,y4.2.1,y4.2.2))

def yp (y5:Int × List Int × Int):Int × List TRun × List Int × Int -> M (M.Step (Int × List TRun × List Int × Int) (List TRun × List Int × Int)):=fun ⟨v32,v33,v34,v35⟩=>
 cond (decide (v32 < y5.1))
  (M.bind (M.det (zU v34 v35)) fun y37=>
  M.bind (M.det (zU y37.2.1 y37.2.2)) fun y39=>
  M.need ((List.length v33 + List.length ([(⟨y37.1,y39.1⟩:TRun)])) * 16 <= 140737488355328) <|
  M.bind (M.det (zQ y39.2.1 y39.2.2)) fun y42=>
  cond (!decide (y42.1 = 0))
   (M.pure (.done ((((v33 ++ [(⟨y37.1,y39.1⟩:TRun)]),y42.2.1,y42.2.2)))))
   (M.pure (.next (((IntKind.u64.wrap (v32 + 1)),(v33 ++ [(⟨y37.1,y39.1⟩:TRun)]),y42.2.1,y42.2.2)))))
  (M.pure (.done (v33,v34,v35)))
def ZM (b_1:List Int) (bad_2:Int):M (TPart × List Int × Int):=
 M.bind (M.det (yj 65535 b_1 bad_2)) fun y3=>
 M.bind (M.det (zU y3.2.1 y3.2.2)) fun y5=>
 M.bind (M.loop (yp y5) (0,([]:List TRun),y5.2.1,y5.2.2)) (fun ⟨v7,v8,v9⟩=>
 M.pure (((⟨(IntKind.u16.wrap y3.1),v7⟩:TPart),v8,v9)))

def xC (y3:Int × List Int × Int):Int × List TPart × List Int × Int -> M (M.Step (Int × List TPart × List Int × Int) (M.Ex (List TPart × List Int × Int) (List TPart × List Int × Int))):=fun ⟨v26,c27,v28,v29⟩=>
 cond (decide (v26 < y3.1))
  (M.bind (M.det (ZM v28 v29)) fun y31=>
  M.need ((List.length c27 + List.length ([y31.1])) * 32 <= 140737488355328) <|
  M.bind (M.det (zQ y31.2.1 y31.2.2)) fun y34=>
  cond (!decide (y34.1 = 0))
   (M.pure (.done ((.ret (([]:List TPart),y34.2.1,y34.2.2)))))
   (M.pure (.next (((IntKind.u64.wrap (v26 + 1)),(c27 ++ [y31.1]),y34.2.1,y34.2.2)))))
  (M.pure (.done (.brk (c27,v28,v29))))
def wH (b_1:List Int) (bad_2:Int):M (List TPart × List Int × Int):=
 M.bind (M.det (zU b_1 bad_2)) fun y3=>
 M.bind (M.loop (xC y3) (0,([]:List TPart),y3.2.1,y3.2.2)) (M.exk (fun ⟨c5,v6,v7⟩=>
 M.bind (M.det (vV c5)) fun v37=>
 cond (!v37)
  (M.bind (M.det (zJ 4 v6 v7)) fun y40=>
  M.pure (([]:List TPart),y40.1,y40.2))
  (M.pure (c5,v6,v7))))

def vI (b_1:List Int) (bad_2:Int):M (TDot × List Int × Int):=
 M.bind (M.det (yj 65535 b_1 bad_2)) fun y3=>
 M.bind (M.det (zU y3.2.1 y3.2.2)) fun y5=>
 M.bind (M.det (ZH (⟨(IntKind.u16.wrap y3.1),y5.1⟩:TDot))) fun v7=>
 M.bind (cond (!v7)
  (M.bind (M.det (zJ 4 y5.2.1 y5.2.2)) fun y12=>
  M.pure (y12.1,y12.2))
  (M.pure (y5.2.1,y5.2.2))) (fun ⟨v9,v10⟩=>
 M.bind (M.det (zQ v9 v10)) fun y14=>
 cond (!decide (y14.1 = 0))
  (M.pure ((⟨0,0⟩:TDot),y14.2.1,y14.2.2))
  (M.pure (((⟨(IntKind.u16.wrap y3.1),y5.1⟩:TDot),y14.2.1,y14.2.2))))

def vr (b_1:List Int) (bad_2:Int):M (Int × List Int × Int):=
 M.pure ((List.length b_1:Int),b_1,bad_2)

def yK (b_1:List Int) (bad_2:Int):M (Int × List Int × Int):=
 M.bind (M.det (vr b_1 bad_2)) fun y3=>
 M.pure (y3.1,y3.2.1,y3.2.2)

def yB (b_1:List Int) (bad_2:Int):M (Int × List Int × Int):=
 M.bind (M.det (zQ b_1 bad_2)) fun y3=>
 cond (!decide (y3.1 = 0))
  (M.pure (0,y3.2.1,y3.2.2))
  (M.bind (M.det (yK y3.2.1 y3.2.2)) fun y6=>
  cond (decide (y6.1 = 0))
   (M.bind (M.det (zJ 2 y6.2.1 y6.2.2)) fun y9=>
   M.pure (0,y9.1,y9.2))
   (M.bind (M.det (yb 1 y6.2.1 y6.2.2)) fun y11=>
   M.bind (M.idx y11.1 0) fun x13=>
   M.pure (x13,y11.2.1,y11.2.2)))

def yk (most1:Int) (b_2:List Int) (bad_3:Int):M (ByteArray × List Int × Int):=
 M.bind (M.det (zU b_2 bad_3)) fun y4=>
 M.bind (M.det (zQ y4.2.1 y4.2.2)) fun y6=>
 cond (!decide (y6.1 = 0))
  (M.pure ((⟨#[]⟩:ByteArray),y6.2.1,y6.2.2))
  (cond ((decide ((IntKind.u64.wrap (max most1 0)) < y4.1)))
   (M.bind (M.det (zJ 3 y6.2.1 y6.2.2)) fun y10=>
   M.pure ((⟨#[]⟩:ByteArray),y10.1,y10.2))
   (M.bind (M.det (yK y6.2.1 y6.2.2)) fun y12=>
   cond ((decide ((IntKind.u64.wrap y12.1) < y4.1)))
    (M.bind (M.det (zJ 2 y12.2.1 y12.2.2)) fun y15=>
    M.pure ((⟨#[]⟩:ByteArray),y15.1,y15.2))
    (M.bind (M.det (yb (IntKind.i64.wrap y4.1) y12.2.1 y12.2.2)) fun y17=>
    M.pure ((strL y17.1),y17.2.1,y17.2.2))))

def yq (y4:Int × List Int × Int):Int × List TDot × List Int × Int -> M (M.Step (Int × List TDot × List Int × Int) (M.Ex (List TDot × List Int × Int) (List TDot × List Int × Int))):=fun ⟨v52,out53,v54,v55⟩=>
 cond (decide (v52 < y4.1))
  (M.bind (M.det (vI v54 v55)) fun y57=>
  M.bind (cond ((decide (0 <= ((IntKind.i64.wrap (((List.length out53):Int) - 1))))))
   (M.bind (M.idx out53 ((IntKind.i64.wrap (((List.length out53):Int) - 1)))) fun x61=>
   M.bind (M.det (we x61 y57.1)) fun v63=>
   M.pure (decide (0 <= v63)))
   (M.pure false)) (fun v59=>
  M.bind (cond v59
   (M.bind (M.det (zJ 4 y57.2.1 y57.2.2)) fun y68=>
   M.pure (y68.1,y68.2))
   (M.pure (y57.2.1,y57.2.2))) (fun ⟨v65,v66⟩=>
  M.bind (M.det (zQ v65 v66)) fun y70=>
  cond (!decide (y70.1 = 0))
   (M.pure (.done ((.ret (([]:List TDot),y70.2.1,y70.2.2)))))
   (M.need ((List.length out53 + List.length ([y57.1])) * 16 <= 140737488355328) <|
   M.pure (.next (((IntKind.u64.wrap (v52 + 1)),(out53 ++ [y57.1]),y70.2.1,y70.2.2)))))))
  (M.pure (.done (.brk (out53,v54,v55))))
def vf (most1:Int) (b_2:List Int) (bad_3:Int):M (List TDot × List Int × Int):=
 M.bind (M.det (zU b_2 bad_3)) fun y4=>
 cond ((decide ((IntKind.u64.wrap (max most1 0)) < y4.1)))
  (M.bind (M.det (zJ 3 y4.2.1 y4.2.2)) fun y7=>
  M.pure (([]:List TDot),y7.1,y7.2))
  (M.bind (M.loop (yq y4) (0,([]:List TDot),y4.2.1,y4.2.2)) (M.exk (fun ⟨out9,v10,v11⟩=>
  M.pure (out9,v10,v11))))

def YY (b_1:List Int) (bad_2:Int):M (TEvent × List Int × Int):=
 M.bind (M.det (vI b_1 bad_2)) fun y3=>
 M.bind (M.det (yB y3.2.1 y3.2.2)) fun y5=>
 M.bind (M.det (zU y5.2.1 y5.2.2)) fun y7=>
 M.bind (M.det (yB y7.2.1 y7.2.2)) fun y9=>
 M.bind (M.det (yk 60 y9.2.1 y9.2.2)) fun y11=>
 M.bind (M.det (vf 256 y11.2.1 y11.2.2)) fun y13=>
 M.bind (M.det (vH (⟨y3.1,y5.1,y7.1,y9.1,y11.1,y13.1⟩:TEvent))) fun v15=>
 M.bind (cond (!v15)
  (M.bind (M.det (zJ 4 y13.2.1 y13.2.2)) fun y20=>
  M.pure (y20.1,y20.2))
  (M.pure (y13.2.1,y13.2.2))) (fun ⟨v17,v18⟩=>
 M.bind (M.det (zQ v17 v18)) fun y22=>
 cond (!decide (y22.1 = 0))
  (M.pure (((⟨(⟨0,0⟩:TDot),0,0,0,(⟨#[]⟩:ByteArray),([]:List TDot)⟩:TEvent),y22.2.1,y22.2.2)))
  (M.pure ((⟨y3.1,y5.1,y7.1,y9.1,y11.1,y13.1⟩:TEvent),y22.2.1,y22.2.2)))

def yR (y4:Int × List Int × Int):Int × List TEvent × List Int × Int -> M (M.Step (Int × List TEvent × List Int × Int) (M.Ex (List TEvent × List Int × Int) (List TEvent × List Int × Int))):=fun ⟨v52,out53,v54,v55⟩=>
 cond (decide (v52 < y4.1))
  (M.bind (M.det (YY v54 v55)) fun y57=>
  M.bind (cond ((decide (0 <= ((IntKind.i64.wrap (((List.length out53):Int) - 1))))))
   (M.bind (M.idx out53 ((IntKind.i64.wrap (((List.length out53):Int) - 1)))) fun x61=>
   M.bind (M.det (we x61.dot y57.1.dot)) fun v63=>
   M.pure (decide (0 <= v63)))
   (M.pure false)) (fun v59=>
  M.bind (cond v59
   (M.bind (M.det (zJ 4 y57.2.1 y57.2.2)) fun y68=>
   M.pure (y68.1,y68.2))
   (M.pure (y57.2.1,y57.2.2))) (fun ⟨v65,v66⟩=>
  M.bind (M.det (zQ v65 v66)) fun y70=>
  cond (!decide (y70.1 = 0))
   (M.pure (.done ((.ret (([]:List TEvent),y70.2.1,y70.2.2)))))
   (M.need ((List.length out53 + List.length ([y57.1])) * 80 <= 140737488355328) <|
   M.pure (.next (((IntKind.u64.wrap (v52 + 1)),(out53 ++ [y57.1]),y70.2.1,y70.2.2)))))))
  (M.pure (.done (.brk (out53,v54,v55))))
def xr (most1:Int) (b_2:List Int) (bad_3:Int):M (List TEvent × List Int × Int):=
 M.bind (M.det (zU b_2 bad_3)) fun y4=>
 cond ((decide ((IntKind.u64.wrap (max most1 0)) < y4.1)))
  (M.bind (M.det (zJ 3 y4.2.1 y4.2.2)) fun y7=>
  M.pure (([]:List TEvent),y7.1,y7.2))
  (M.bind (M.loop (yR y4) (0,([]:List TEvent),y4.2.1,y4.2.2)) (M.exk (fun ⟨out9,v10,v11⟩=>
  M.pure (out9,v10,v11))))

def wn (b_1:List Int) (bad_2:Int):M (TDelta × List Int × Int):=
 M.bind (M.det (wH b_1 bad_2)) fun y3=>
 M.bind (M.det (wH y3.2.1 y3.2.2)) fun y5=>
 M.bind (M.det (xr 4096 y5.2.1 y5.2.2)) fun y7=>
 M.bind (M.det (Zm (⟨y3.1,y5.1,y7.1⟩:TDelta))) fun v9=>
 M.bind (cond (!v9)
  (M.bind (M.det (zJ 4 y7.2.1 y7.2.2)) fun y14=>
  M.pure (y14.1,y14.2))
  (M.pure (y7.2.1,y7.2.2))) (fun ⟨v11,v12⟩=>
 M.bind (M.det (zQ v11 v12)) fun y16=>
 cond (!decide (y16.1 = 0))
  (M.pure (((⟨([]:List TPart),([]:List TPart),([]:List TEvent)⟩:TDelta),y16.2.1,y16.2.2)))
  (M.pure ((⟨y3.1,y5.1,y7.1⟩:TDelta),y16.2.1,y16.2.2)))

def uf (b_1:List Int) (at_2:Int) (bad_3:Int):M (TDelta × List Int × Int × Int):=
 M.bind (M.det (ue b_1 at_2 bad_3)) fun y4=>
 M.bind (M.det (ue y4.2.1 y4.2.2.1 y4.2.2.2)) fun y6=>
 M.bind (M.det (ve 4096 y6.2.1 y6.2.2.1 y6.2.2.2)) fun y8=>
 M.bind (cond (decide (y8.2.2.2 = 0))
  (M.bind (M.det (Xr (⟨y4.1,y6.1,y8.1⟩:TDelta))) fun v12=>
  M.pure (!v12))
  (M.pure false)) (fun v10=>
 M.bind (cond v10
  (M.bind (M.det (zD 4 y8.2.1 y8.2.2.1 y8.2.2.2)) fun y18=>
  M.pure (y18.1,y18.2.1,y18.2.2))
  (M.pure (y8.2.1,y8.2.2.1,y8.2.2.2))) (fun ⟨v14,v15,v16⟩=>
 cond (!decide (v16 = 0))
  (M.pure (((⟨([]:List TPart),([]:List TPart),([]:List TEvent)⟩:TDelta),v14,v15,v16)))
  (M.pure ((⟨y4.1,y6.1,y8.1⟩:TDelta),v14,v15,v16))))

def yr (b_1:List Int) (bad_2:Int):M (Int × List Int × Int):=
 M.bind (M.det (yK b_1 bad_2)) fun y3=>
 M.bind (cond (decide (0 < y3.1))
  (M.bind (M.det (zJ 4 y3.2.1 y3.2.2)) fun y8=>
  M.pure (y8.1,y8.2))
  (M.pure (y3.2.1,y3.2.2))) (fun ⟨v5,v6⟩=>
 M.bind (M.det (zQ v5 v6)) fun y10=>
 M.pure (y10.1,y10.2.1,y10.2.2))

def Zq (e1:TEvent) (nl2:Bool) (m3:List (TDot × TEvent)):M (Bool × (List (TDot × TEvent))):=
 M.bind (cond nl2
  (M.pure ([]:List (TDot × TEvent)))
  (M.pure m3)) (fun v4=>
 M.bind (M.det (yo e1)) fun v9=>
 M.pure (false,(AL.set v4 e1.dot v9)))

def zu (l2:List TEvent):Int × Bool × (List (TDot × TEvent)) × Bool × (List (TDot × TEvent)) -> M (M.Step (Int × Bool × (List (TDot × TEvent)) × Bool × (List (TDot × TEvent))) (M.Ex (Bool × (List (TDot × TEvent)) × Bool × (List (TDot × TEvent))) (Unit ⊕ (List TPart × Bool × (List (TDot × TEvent)) × Bool × (List (TDot × TEvent)))))):=fun ⟨v72,nl73,v74,nl75,v76⟩=>
 cond ((decide (v72 < (List.length l2:Int))))
  (M.bind (M.bind (M.idx l2 v72) fun x82=>
  M.bind (M.bind (M.det (vH x82)) fun v85=>
  cond (!v85)
   (M.pure true)
   (cond (decide (0 < v72))
    (M.bind (M.idx l2 (IntKind.i64.wrap (v72 - 1))) fun x89=>
    M.bind (M.det (we x89.dot x82.dot)) fun v91=>
    cond (decide (0 <= v91))
     (M.pure true)
     (cond (decide (x82.kind = 1))
      (M.bind (M.det (wW l2 x82.dot)) fun v95=>
      M.pure v95)
      (M.pure false)))
    (cond (decide (x82.kind = 1))
     (M.bind (M.det (wW l2 x82.dot)) fun v98=>
     M.pure v98)
     (M.pure false)))) (fun v84=>
  cond v84
   (M.pure (.ret ((.done ((.ret (.inl ())))))))
   (cond (decide (x82.kind = 1))
    (M.bind (M.det (Zq x82 nl75 v76)) fun y102=>
    M.pure (.brk (nl73,v74,y102.1,y102.2)))
    (M.bind (M.det (Zq x82 nl73 v74)) fun y104=>
    M.pure (.brk (y104.1,y104.2,nl75,v76)))))) (M.exk (fun ⟨nl78,v79,nl80,v81⟩=>
  M.pure (.next (((IntKind.i64.wrap (v72 + 1)),nl78,v79,nl80,v81))))))
  (M.pure (.done (.brk (nl73,v74,nl75,v76))))
def ug (c1:List TPart) (l2:List TEvent):M (Unit ⊕ (List TPart × Bool × (List (TDot × TEvent)) × Bool × (List (TDot × TEvent)))):=
 M.bind (M.det (YJ c1)) fun v3=>
 M.bind (M.loop (zu l2) ((0,true,([]:List (TDot × TEvent)),true,([]:List (TDot × TEvent))))) (M.exk (fun ⟨nl5,v6,nl7,v8⟩=>
 M.bind (M.bind (M.det (vV c1)) fun v107=>
 cond (!v107)
  (M.pure true)
  (M.bind (M.det (Zk l2)) fun v110=>
  M.bind (M.det (Zj v110 c1)) fun v112=>
  M.pure ((decide (0 < ((List.length v112):Int)))))) (fun v106=>
 cond v106
  (M.pure (.inl ()))
  (M.pure (.inr (v3,nl7,v8,nl5,v6))))))

def ZW (b1:List Int):M (Int ⊕ (Int × List TPart × Bool × (List (TDot × TEvent)) × Bool × (List (TDot × TEvent)))):=
 M.bind (M.det (Zp b1)) fun y2=>
 M.bind (M.det (wH y2.1 y2.2)) fun y4=>
 M.bind (M.det (xr 4096 y4.2.1 y4.2.2)) fun y6=>
 M.bind (M.det (yr y6.2.1 y6.2.2)) fun y8=>
 cond (!decide (y8.1 = 0))
  (M.pure (.inl y8.1))
  (M.bind (M.det (ug y4.1 y6.1)) fun y11=>
  M.sum y11 (fun z13=>
   M.pure (.inl 4)) (fun z14=>
   M.pure (.inr (0,z14.1,z14.2.1,z14.2.2.1,z14.2.2.2.1,z14.2.2.2.2))))

def ZN :M (List TEvent):=
 M.pure ([]:List TEvent)

def uh :M (List TEvent):=
 M.pure ([]:List TEvent)

def JR (x1:R18Book):M Int:=
 M.bind (M.bind (M.det (xb)) fun v3=>
 M.bind (M.det (ZJ x1.ctx)) fun v5=>
 M.bind (M.det (Vx v3 v5)) fun v7=>
 cond v7
  (M.bind (M.det (ZN)) fun v10=>
  M.bind (M.det (Ws x1)) fun v12=>
  M.bind (M.det (ZV v10 v12)) fun v14=>
  cond v14
   (M.bind (M.det (uh)) fun v17=>
   M.bind (M.det (Yy x1)) fun v19=>
   M.bind (M.det (ZV v17 v19)) fun v21=>
   cond v21
    (M.bind (M.det (xd)) fun v24=>
    M.bind (M.det (ZV v24 x1.l)) fun v26=>
    M.pure v26)
    (M.pure false))
   (M.pure false))
  (M.pure false)) (fun v2=>
 cond v2
  (M.pure 1)
  (M.pure 0))

def Yz (m2:List (TDot × TEvent)):List Nat × List TEvent -> M (M.Step (List Nat × List TEvent) (List TEvent)):=fun ⟨seen30,out31⟩=>
 M.need (∀ i ∈ seen30,i < List.length m2)<|M.bind (M.nxt (List.length m2) seen30) fun o=>match o with
 | none=>
  M.pure (.done out31)
 | some j32=>
  M.bind (M.idx m2 (Int.ofNat j32)) fun kv36=>
  M.bind (M.det (yo kv36.2)) fun v38=>
  M.need ((List.length out31 + List.length ([v38])) * 80 <= 140737488355328) <|
  M.pure (.next ((seen30 ++ [j32]),(out31 ++ [v38])))
def vg (nl1:Bool) (m2:List (TDot × TEvent)):M (List TEvent):=
 M.bind (M.bind (M.loop (Yz m2) ([],([]:List TEvent))) (fun out6=>
 M.pure out6)) (fun out3=>
 M.need (List.length out3 < 4611686018427387904)<|M.bind (M.srt YH out3) fun s42=>
 M.pure s42)

def xy (ctx_1:List TPart) (nl2:Bool) (m3:List (TDot × TEvent)) (nl4:Bool) (m5:List (TDot × TEvent)):M (List TEvent):=
 M.bind (M.det (vg nl2 m3)) fun y6=>
 M.pure y6

def xf (ctx_1:List TPart) (nl2:Bool) (m3:List (TDot × TEvent)) (nl4:Bool) (m5:List (TDot × TEvent)):M (List TEvent):=
 M.bind (M.det (vg nl4 m5)) fun y6=>
 M.pure y6

def UW (x1:R18Book) (ctx_2:List TPart) (nl3:Bool) (m4:List (TDot × TEvent)) (nl5:Bool) (m6:List (TDot × TEvent)):M Int:=
 M.bind (M.bind (M.det (xR ctx_2 nl3 m4 nl5 m6)) fun y8=>
 M.bind (M.det (ZJ x1.ctx)) fun v10=>
 M.bind (M.det (Vx y8 v10)) fun v12=>
 cond v12
  (M.bind (M.det (xy ctx_2 nl3 m4 nl5 m6)) fun y15=>
  M.bind (M.det (Ws x1)) fun v17=>
  M.bind (M.det (ZV y15 v17)) fun v19=>
  cond v19
   (M.bind (M.det (xf ctx_2 nl3 m4 nl5 m6)) fun y22=>
   M.bind (M.det (Yy x1)) fun v24=>
   M.bind (M.det (ZV y22 v24)) fun v26=>
   cond v26
    (M.bind (M.det (xS ctx_2 nl3 m4 nl5 m6)) fun y29=>
    M.bind (M.det (ZV y29 x1.l)) fun v31=>
    M.pure v31)
    (M.pure false))
   (M.pure false))
  (M.pure false)) (fun v7=>
 cond v7
  (M.pure 1)
  (M.pure 0))

def vW (b1:List Int):M Bool:=
 cond ((decide (1500 < (List.length b1:Int))))
  (M.bind (M.det (uV)) fun v3=>
  M.pure v3)
  (M.bind (M.det (Zp b1)) fun y5=>
  M.bind (M.bind (M.det (wn y5.1 y5.2)) fun y8=>
  M.bind (M.det (uf b1 0 0)) fun y10=>
  M.bind (M.det (UO y8.1 y10.1)) fun v12=>
  cond (!v12)
   (M.pure true)
   (M.bind (M.det (yr y8.2.1 y8.2.2)) fun y15=>
   M.bind (M.det (zt y10.2.1 y10.2.2.1 y10.2.2.2)) fun y17=>
   M.pure (!decide (y15.1 = y17.1)))) (fun v7=>
  cond v7
   (M.pure false)
   (M.bind (M.det (ZW b1)) fun y20=>
   M.sum y20 (fun z22=>
    M.bind (M.det (Xs b1)) fun v23=>
    cond (!decide (z22 = v23.2))
     (M.pure false)
     (cond (!decide (z22 = 0))
      (M.bind (M.det (uV)) fun v27=>
      M.pure v27)
      (M.bind (M.bind (M.det (JR v23.1)) fun v30=>
      cond (decide (v30 = 1))
       (M.bind (M.det (yx)) fun v33=>
       M.bind (M.det (Zh v33 b1)) fun v35=>
       cond v35
        (M.bind (M.det (uV)) fun v38=>
        M.pure v38)
        (M.pure false))
       (M.pure false)) (fun v29=>
      M.pure v29)))) (fun z40=>
    M.bind (M.det (Xs b1)) fun v41=>
    cond (!decide (z40.1 = v41.2))
     (M.pure false)
     (cond (!decide (z40.1 = 0))
      (M.pure false)
      (M.bind (M.bind (M.det (UW v41.1 z40.2.1 z40.2.2.1 z40.2.2.2.1 z40.2.2.2.2.1 z40.2.2.2.2.2)) fun y46=>
      cond (decide (y46 = 1))
       (M.bind (M.det (xB z40.2.1 z40.2.2.1 z40.2.2.2.1 z40.2.2.2.2.1 z40.2.2.2.2.2)) fun y49=>
       M.bind (M.det (Zh y49 b1)) fun v51=>
       cond v51
        (M.bind (M.det (uV)) fun v54=>
        M.pure v54)
        (M.pure false))
       (M.pure false)) (fun v45=>
      M.pure v45)))))))
end Go.Ep

namespace Go.Proofs
open Go.Shelf
def Tryz.pdq170_ren : Go.Shelf.Ren:=⟨fun | 14=>170 | 20=>183 | 21=>184 | 22=>185 | 23=>186 | 24=>187 | 25=>188 | 26=>189 | 27=>190 | 46=>212 | 47=>213 | 48=>214 | 49=>215 | 50=>216 | 15=>171 | 57=>231 | 28=>191 | 29=>192 | n=>n,fun | 24=>90 | 22=>32 | 3=>3 | 25=>169 | 4=>4 | 0=>0 | 46=>205 | 45=>204 | 50=>190 | 66=>225 | 39=>188 | 55=>85 | 70=>228 | 76=>239 | 77=>240 | 53=>211 | 5=>5 | 9=>9 | n=>n,fun | n=>n⟩
theorem Tryz.pdq170 : Go.Proofs.SlLaysF0.n14 Tryz.prog Tryz.pdq170_ren:={
 mixed:=by kernel_rfl
 f14:=⟨Tryz.f170.name,by decide,Tryz.func170.trans (congrArg some (by kernel_rfl))⟩
 f15:=Tryz.func171.trans (congrArg some (by kernel_rfl))
 f20:=⟨Tryz.f183.name,by decide,Tryz.func183.trans (congrArg some (by kernel_rfl))⟩
 f21:=⟨Tryz.f184.name,by decide,Tryz.func184.trans (congrArg some (by kernel_rfl))⟩
 f22:=⟨Tryz.f185.name,by decide,Tryz.func185.trans (congrArg some (by kernel_rfl))⟩
 f23:=⟨Tryz.f186.name,by decide,Tryz.func186.trans (congrArg some (by kernel_rfl))⟩
 f24:=⟨Tryz.f187.name,by decide,Tryz.func187.trans (congrArg some (by kernel_rfl))⟩
 f25:=⟨Tryz.f188.name,by decide,Tryz.func188.trans (congrArg some (by kernel_rfl))⟩
 f26:=⟨Tryz.f189.name,by decide,Tryz.func189.trans (congrArg some (by kernel_rfl))⟩
 f27:=⟨Tryz.f190.name,by decide,Tryz.func190.trans (congrArg some (by kernel_rfl))⟩
 f28:=Tryz.func191.trans (congrArg some (by kernel_rfl))
 f29:=Tryz.func192.trans (congrArg some (by kernel_rfl))
 f46:=⟨Tryz.f212.name,by decide,Tryz.func212.trans (congrArg some (by kernel_rfl))⟩
 f47:=Tryz.func213.trans (congrArg some (by kernel_rfl))
 f48:=Tryz.func214.trans (congrArg some (by kernel_rfl))
 f49:=⟨Tryz.f215.name,by decide,Tryz.func215.trans (congrArg some (by kernel_rfl))⟩
 f50:=⟨Tryz.f216.name,by decide,Tryz.func216.trans (congrArg some (by kernel_rfl))⟩
 f57:=⟨Tryz.f231.name,by decide,Tryz.func231.trans (congrArg some (by kernel_rfl))⟩
 t0:=Tryz.underlying0
 a0:=Tryz.isAgg0
 z0:=Tryz.sizeOf0
 v0:=Tryz.zeroValue0
 t3:=Tryz.underlying3
 a3:=Tryz.isAgg3
 z3:=Tryz.sizeOf3
 v3:=Tryz.zeroValue3
 t4:=Tryz.underlying4
 a4:=Tryz.isAgg4
 z4:=Tryz.sizeOf4
 v4:=Tryz.zeroValue4
 t5:=Tryz.underlying5
 a5:=Tryz.isAgg5
 z5:=Tryz.sizeOf5
 v5:=Tryz.zeroValue5
 t9:=Tryz.underlying9
 a9:=Tryz.isAgg9
 z9:=Tryz.sizeOf9
 v9:=Tryz.zeroValue9
 t22:=Tryz.underlying32
 a22:=Tryz.isAgg32
 z22:=Tryz.sizeOf32
 v22:=Tryz.zeroValue32
 t25:=Tryz.underlying169
 a25:=Tryz.isAgg169
 z25:=Tryz.sizeOf169
 v25:=Tryz.zeroValue169
 t39:=Tryz.underlying188
 a39:=Tryz.isAgg188
 z39:=Tryz.sizeOf188
 v39:=Tryz.zeroValue188
 t45:=Tryz.underlying204
 a45:=Tryz.isAgg204
 z45:=Tryz.sizeOf204
 v45:=Tryz.zeroValue204
 t46:=Tryz.underlying205
 a46:=Tryz.isAgg205
 z46:=Tryz.sizeOf205
 v46:=Tryz.zeroValue205
 t50:=Tryz.underlying190
 a50:=Tryz.isAgg190
 z50:=Tryz.sizeOf190
 v50:=Tryz.zeroValue190
 t53:=Tryz.underlying211
 a53:=Tryz.isAgg211
 z53:=Tryz.sizeOf211
 v53:=Tryz.zeroValue211
 t55:=Tryz.underlying85
 a55:=Tryz.isAgg85
 z55:=Tryz.sizeOf85
 v55:=Tryz.zeroValue85
 t66:=Tryz.underlying225
 a66:=Tryz.isAgg225
 z66:=Tryz.sizeOf225
 v66:=Tryz.zeroValue225
 t70:=Tryz.underlying228
 a70:=Tryz.isAgg228
 z70:=Tryz.sizeOf228
 v70:=Tryz.zeroValue228
 t76:=Tryz.underlying239
 a76:=Tryz.isAgg239
 z76:=Tryz.sizeOf239
 v76:=Tryz.zeroValue239
 t77:=Tryz.underlying240
 a77:=Tryz.isAgg240
 z77:=Tryz.sizeOf240
 v77:=Tryz.zeroValue240 }
def Tryz.pdq176_ren : Go.Shelf.Ren:=⟨fun | 14=>176 | 20=>194 | 21=>195 | 22=>196 | 23=>197 | 24=>198 | 25=>199 | 26=>200 | 27=>201 | 46=>225 | 47=>213 | 48=>214 | 49=>226 | 50=>227 | 15=>171 | 57=>235 | 28=>191 | 29=>192 | n=>n,fun | 24=>114 | 22=>30 | 3=>3 | 25=>181 | 4=>4 | 0=>0 | 46=>205 | 45=>204 | 50=>190 | 66=>225 | 39=>188 | 55=>85 | 70=>228 | 76=>239 | 77=>240 | 53=>211 | 5=>5 | 9=>9 | n=>n,fun | n=>n⟩
theorem Tryz.pdq176 : Go.Proofs.SlLaysF0.n14 Tryz.prog Tryz.pdq176_ren:={
 mixed:=by kernel_rfl
 f14:=⟨Tryz.f176.name,by decide,Tryz.func176.trans (congrArg some (by kernel_rfl))⟩
 f15:=Tryz.func171.trans (congrArg some (by kernel_rfl))
 f20:=⟨Tryz.f194.name,by decide,Tryz.func194.trans (congrArg some (by kernel_rfl))⟩
 f21:=⟨Tryz.f195.name,by decide,Tryz.func195.trans (congrArg some (by kernel_rfl))⟩
 f22:=⟨Tryz.f196.name,by decide,Tryz.func196.trans (congrArg some (by kernel_rfl))⟩
 f23:=⟨Tryz.f197.name,by decide,Tryz.func197.trans (congrArg some (by kernel_rfl))⟩
 f24:=⟨Tryz.f198.name,by decide,Tryz.func198.trans (congrArg some (by kernel_rfl))⟩
 f25:=⟨Tryz.f199.name,by decide,Tryz.func199.trans (congrArg some (by kernel_rfl))⟩
 f26:=⟨Tryz.f200.name,by decide,Tryz.func200.trans (congrArg some (by kernel_rfl))⟩
 f27:=⟨Tryz.f201.name,by decide,Tryz.func201.trans (congrArg some (by kernel_rfl))⟩
 f28:=Tryz.func191.trans (congrArg some (by kernel_rfl))
 f29:=Tryz.func192.trans (congrArg some (by kernel_rfl))
 f46:=⟨Tryz.f225.name,by decide,Tryz.func225.trans (congrArg some (by kernel_rfl))⟩
 f47:=Tryz.func213.trans (congrArg some (by kernel_rfl))
 f48:=Tryz.func214.trans (congrArg some (by kernel_rfl))
 f49:=⟨Tryz.f226.name,by decide,Tryz.func226.trans (congrArg some (by kernel_rfl))⟩
 f50:=⟨Tryz.f227.name,by decide,Tryz.func227.trans (congrArg some (by kernel_rfl))⟩
 f57:=⟨Tryz.f235.name,by decide,Tryz.func235.trans (congrArg some (by kernel_rfl))⟩
 t0:=Tryz.underlying0
 a0:=Tryz.isAgg0
 z0:=Tryz.sizeOf0
 v0:=Tryz.zeroValue0
 t3:=Tryz.underlying3
 a3:=Tryz.isAgg3
 z3:=Tryz.sizeOf3
 v3:=Tryz.zeroValue3
 t4:=Tryz.underlying4
 a4:=Tryz.isAgg4
 z4:=Tryz.sizeOf4
 v4:=Tryz.zeroValue4
 t5:=Tryz.underlying5
 a5:=Tryz.isAgg5
 z5:=Tryz.sizeOf5
 v5:=Tryz.zeroValue5
 t9:=Tryz.underlying9
 a9:=Tryz.isAgg9
 z9:=Tryz.sizeOf9
 v9:=Tryz.zeroValue9
 t22:=Tryz.underlying30
 a22:=Tryz.isAgg30
 z22:=Tryz.sizeOf30
 v22:=Tryz.zeroValue30
 t25:=Tryz.underlying181
 a25:=Tryz.isAgg181
 z25:=Tryz.sizeOf181
 v25:=Tryz.zeroValue181
 t39:=Tryz.underlying188
 a39:=Tryz.isAgg188
 z39:=Tryz.sizeOf188
 v39:=Tryz.zeroValue188
 t45:=Tryz.underlying204
 a45:=Tryz.isAgg204
 z45:=Tryz.sizeOf204
 v45:=Tryz.zeroValue204
 t46:=Tryz.underlying205
 a46:=Tryz.isAgg205
 z46:=Tryz.sizeOf205
 v46:=Tryz.zeroValue205
 t50:=Tryz.underlying190
 a50:=Tryz.isAgg190
 z50:=Tryz.sizeOf190
 v50:=Tryz.zeroValue190
 t53:=Tryz.underlying211
 a53:=Tryz.isAgg211
 z53:=Tryz.sizeOf211
 v53:=Tryz.zeroValue211
 t55:=Tryz.underlying85
 a55:=Tryz.isAgg85
 z55:=Tryz.sizeOf85
 v55:=Tryz.zeroValue85
 t66:=Tryz.underlying225
 a66:=Tryz.isAgg225
 z66:=Tryz.sizeOf225
 v66:=Tryz.zeroValue225
 t70:=Tryz.underlying228
 a70:=Tryz.isAgg228
 z70:=Tryz.sizeOf228
 v70:=Tryz.zeroValue228
 t76:=Tryz.underlying239
 a76:=Tryz.isAgg239
 z76:=Tryz.sizeOf239
 v76:=Tryz.zeroValue239
 t77:=Tryz.underlying240
 a77:=Tryz.isAgg240
 z77:=Tryz.sizeOf240
 v77:=Tryz.zeroValue240 }
def Tryz.pdq178_ren : Go.Shelf.Ren:=⟨fun | 14=>178 | 20=>203 | 21=>204 | 22=>205 | 23=>206 | 24=>207 | 25=>208 | 26=>209 | 27=>210 | 46=>228 | 47=>213 | 48=>214 | 49=>229 | 50=>230 | 15=>171 | 57=>236 | 28=>191 | 29=>192 | n=>n,fun | 24=>87 | 22=>88 | 3=>3 | 25=>94 | 4=>4 | 0=>0 | 46=>205 | 45=>204 | 50=>190 | 66=>225 | 39=>188 | 55=>85 | 70=>228 | 76=>239 | 77=>240 | 53=>211 | 5=>5 | 9=>9 | n=>n,fun | n=>n⟩
theorem Tryz.pdq178 : Go.Proofs.SlLaysF0.n14 Tryz.prog Tryz.pdq178_ren:={
 mixed:=by kernel_rfl
 f14:=⟨Tryz.f178.name,by decide,Tryz.func178.trans (congrArg some (by kernel_rfl))⟩
 f15:=Tryz.func171.trans (congrArg some (by kernel_rfl))
 f20:=⟨Tryz.f203.name,by decide,Tryz.func203.trans (congrArg some (by kernel_rfl))⟩
 f21:=⟨Tryz.f204.name,by decide,Tryz.func204.trans (congrArg some (by kernel_rfl))⟩
 f22:=⟨Tryz.f205.name,by decide,Tryz.func205.trans (congrArg some (by kernel_rfl))⟩
 f23:=⟨Tryz.f206.name,by decide,Tryz.func206.trans (congrArg some (by kernel_rfl))⟩
 f24:=⟨Tryz.f207.name,by decide,Tryz.func207.trans (congrArg some (by kernel_rfl))⟩
 f25:=⟨Tryz.f208.name,by decide,Tryz.func208.trans (congrArg some (by kernel_rfl))⟩
 f26:=⟨Tryz.f209.name,by decide,Tryz.func209.trans (congrArg some (by kernel_rfl))⟩
 f27:=⟨Tryz.f210.name,by decide,Tryz.func210.trans (congrArg some (by kernel_rfl))⟩
 f28:=Tryz.func191.trans (congrArg some (by kernel_rfl))
 f29:=Tryz.func192.trans (congrArg some (by kernel_rfl))
 f46:=⟨Tryz.f228.name,by decide,Tryz.func228.trans (congrArg some (by kernel_rfl))⟩
 f47:=Tryz.func213.trans (congrArg some (by kernel_rfl))
 f48:=Tryz.func214.trans (congrArg some (by kernel_rfl))
 f49:=⟨Tryz.f229.name,by decide,Tryz.func229.trans (congrArg some (by kernel_rfl))⟩
 f50:=⟨Tryz.f230.name,by decide,Tryz.func230.trans (congrArg some (by kernel_rfl))⟩
 f57:=⟨Tryz.f236.name,by decide,Tryz.func236.trans (congrArg some (by kernel_rfl))⟩
 t0:=Tryz.underlying0
 a0:=Tryz.isAgg0
 z0:=Tryz.sizeOf0
 v0:=Tryz.zeroValue0
 t3:=Tryz.underlying3
 a3:=Tryz.isAgg3
 z3:=Tryz.sizeOf3
 v3:=Tryz.zeroValue3
 t4:=Tryz.underlying4
 a4:=Tryz.isAgg4
 z4:=Tryz.sizeOf4
 v4:=Tryz.zeroValue4
 t5:=Tryz.underlying5
 a5:=Tryz.isAgg5
 z5:=Tryz.sizeOf5
 v5:=Tryz.zeroValue5
 t9:=Tryz.underlying9
 a9:=Tryz.isAgg9
 z9:=Tryz.sizeOf9
 v9:=Tryz.zeroValue9
 t22:=Tryz.underlying88
 a22:=Tryz.isAgg88
 z22:=Tryz.sizeOf88
 v22:=Tryz.zeroValue88
 t25:=Tryz.underlying94
 a25:=Tryz.isAgg94
 z25:=Tryz.sizeOf94
 v25:=Tryz.zeroValue94
 t39:=Tryz.underlying188
 a39:=Tryz.isAgg188
 z39:=Tryz.sizeOf188
 v39:=Tryz.zeroValue188
 t45:=Tryz.underlying204
 a45:=Tryz.isAgg204
 z45:=Tryz.sizeOf204
 v45:=Tryz.zeroValue204
 t46:=Tryz.underlying205
 a46:=Tryz.isAgg205
 z46:=Tryz.sizeOf205
 v46:=Tryz.zeroValue205
 t50:=Tryz.underlying190
 a50:=Tryz.isAgg190
 z50:=Tryz.sizeOf190
 v50:=Tryz.zeroValue190
 t53:=Tryz.underlying211
 a53:=Tryz.isAgg211
 z53:=Tryz.sizeOf211
 v53:=Tryz.zeroValue211
 t55:=Tryz.underlying85
 a55:=Tryz.isAgg85
 z55:=Tryz.sizeOf85
 v55:=Tryz.zeroValue85
 t66:=Tryz.underlying225
 a66:=Tryz.isAgg225
 z66:=Tryz.sizeOf225
 v66:=Tryz.zeroValue225
 t70:=Tryz.underlying228
 a70:=Tryz.isAgg228
 z70:=Tryz.sizeOf228
 v70:=Tryz.zeroValue228
 t76:=Tryz.underlying239
 a76:=Tryz.isAgg239
 z76:=Tryz.sizeOf239
 v76:=Tryz.zeroValue239
 t77:=Tryz.underlying240
 a77:=Tryz.isAgg240
 z77:=Tryz.sizeOf240
 v77:=Tryz.zeroValue240 }
def Tryz.pdq193_ren : Go.Shelf.Ren:=⟨fun | 14=>193 | 20=>217 | 21=>218 | 22=>219 | 23=>220 | 24=>221 | 25=>222 | 26=>223 | 27=>224 | 46=>232 | 47=>213 | 48=>214 | 49=>233 | 50=>234 | 15=>171 | 57=>237 | 28=>191 | 29=>192 | n=>n,fun | 24=>119 | 22=>112 | 3=>3 | 25=>198 | 4=>4 | 0=>0 | 46=>205 | 45=>204 | 50=>190 | 66=>225 | 39=>188 | 55=>85 | 70=>228 | 76=>239 | 77=>240 | 53=>211 | 5=>5 | 9=>9 | n=>n,fun | n=>n⟩
theorem Tryz.pdq193 : Go.Proofs.SlLaysF0.n14 Tryz.prog Tryz.pdq193_ren:={
 mixed:=by kernel_rfl
 f14:=⟨Tryz.f193.name,by decide,Tryz.func193.trans (congrArg some (by kernel_rfl))⟩
 f15:=Tryz.func171.trans (congrArg some (by kernel_rfl))
 f20:=⟨Tryz.f217.name,by decide,Tryz.func217.trans (congrArg some (by kernel_rfl))⟩
 f21:=⟨Tryz.f218.name,by decide,Tryz.func218.trans (congrArg some (by kernel_rfl))⟩
 f22:=⟨Tryz.f219.name,by decide,Tryz.func219.trans (congrArg some (by kernel_rfl))⟩
 f23:=⟨Tryz.f220.name,by decide,Tryz.func220.trans (congrArg some (by kernel_rfl))⟩
 f24:=⟨Tryz.f221.name,by decide,Tryz.func221.trans (congrArg some (by kernel_rfl))⟩
 f25:=⟨Tryz.f222.name,by decide,Tryz.func222.trans (congrArg some (by kernel_rfl))⟩
 f26:=⟨Tryz.f223.name,by decide,Tryz.func223.trans (congrArg some (by kernel_rfl))⟩
 f27:=⟨Tryz.f224.name,by decide,Tryz.func224.trans (congrArg some (by kernel_rfl))⟩
 f28:=Tryz.func191.trans (congrArg some (by kernel_rfl))
 f29:=Tryz.func192.trans (congrArg some (by kernel_rfl))
 f46:=⟨Tryz.f232.name,by decide,Tryz.func232.trans (congrArg some (by kernel_rfl))⟩
 f47:=Tryz.func213.trans (congrArg some (by kernel_rfl))
 f48:=Tryz.func214.trans (congrArg some (by kernel_rfl))
 f49:=⟨Tryz.f233.name,by decide,Tryz.func233.trans (congrArg some (by kernel_rfl))⟩
 f50:=⟨Tryz.f234.name,by decide,Tryz.func234.trans (congrArg some (by kernel_rfl))⟩
 f57:=⟨Tryz.f237.name,by decide,Tryz.func237.trans (congrArg some (by kernel_rfl))⟩
 t0:=Tryz.underlying0
 a0:=Tryz.isAgg0
 z0:=Tryz.sizeOf0
 v0:=Tryz.zeroValue0
 t3:=Tryz.underlying3
 a3:=Tryz.isAgg3
 z3:=Tryz.sizeOf3
 v3:=Tryz.zeroValue3
 t4:=Tryz.underlying4
 a4:=Tryz.isAgg4
 z4:=Tryz.sizeOf4
 v4:=Tryz.zeroValue4
 t5:=Tryz.underlying5
 a5:=Tryz.isAgg5
 z5:=Tryz.sizeOf5
 v5:=Tryz.zeroValue5
 t9:=Tryz.underlying9
 a9:=Tryz.isAgg9
 z9:=Tryz.sizeOf9
 v9:=Tryz.zeroValue9
 t22:=Tryz.underlying112
 a22:=Tryz.isAgg112
 z22:=Tryz.sizeOf112
 v22:=Tryz.zeroValue112
 t25:=Tryz.underlying198
 a25:=Tryz.isAgg198
 z25:=Tryz.sizeOf198
 v25:=Tryz.zeroValue198
 t39:=Tryz.underlying188
 a39:=Tryz.isAgg188
 z39:=Tryz.sizeOf188
 v39:=Tryz.zeroValue188
 t45:=Tryz.underlying204
 a45:=Tryz.isAgg204
 z45:=Tryz.sizeOf204
 v45:=Tryz.zeroValue204
 t46:=Tryz.underlying205
 a46:=Tryz.isAgg205
 z46:=Tryz.sizeOf205
 v46:=Tryz.zeroValue205
 t50:=Tryz.underlying190
 a50:=Tryz.isAgg190
 z50:=Tryz.sizeOf190
 v50:=Tryz.zeroValue190
 t53:=Tryz.underlying211
 a53:=Tryz.isAgg211
 z53:=Tryz.sizeOf211
 v53:=Tryz.zeroValue211
 t55:=Tryz.underlying85
 a55:=Tryz.isAgg85
 z55:=Tryz.sizeOf85
 v55:=Tryz.zeroValue85
 t66:=Tryz.underlying225
 a66:=Tryz.isAgg225
 z66:=Tryz.sizeOf225
 v66:=Tryz.zeroValue225
 t70:=Tryz.underlying228
 a70:=Tryz.isAgg228
 z70:=Tryz.sizeOf228
 v70:=Tryz.zeroValue228
 t76:=Tryz.underlying239
 a76:=Tryz.isAgg239
 z76:=Tryz.sizeOf239
 v76:=Tryz.zeroValue239
 t77:=Tryz.underlying240
 a77:=Tryz.isAgg240
 z77:=Tryz.sizeOf240
 v77:=Tryz.zeroValue240 }
def Tryz.bits171_ren : Go.Shelf.Ren:=⟨fun | 15=>171 | 28=>191 | 29=>192 | n=>n,fun | 39=>188 | 3=>3 | 53=>211 | 55=>85 | 4=>4 | 5=>5 | 9=>9 | n=>n,fun | n=>n⟩
theorem Tryz.bits171 : Go.Proofs.SlLaysF0.n15 Tryz.prog Tryz.bits171_ren:={
 mixed:=by kernel_rfl
 f15:=Tryz.func171.trans (congrArg some (by kernel_rfl))
 f28:=Tryz.func191.trans (congrArg some (by kernel_rfl))
 f29:=Tryz.func192.trans (congrArg some (by kernel_rfl))
 t3:=Tryz.underlying3
 a3:=Tryz.isAgg3
 z3:=Tryz.sizeOf3
 v3:=Tryz.zeroValue3
 t4:=Tryz.underlying4
 a4:=Tryz.isAgg4
 z4:=Tryz.sizeOf4
 v4:=Tryz.zeroValue4
 t5:=Tryz.underlying5
 a5:=Tryz.isAgg5
 z5:=Tryz.sizeOf5
 v5:=Tryz.zeroValue5
 t9:=Tryz.underlying9
 a9:=Tryz.isAgg9
 z9:=Tryz.sizeOf9
 v9:=Tryz.zeroValue9
 t39:=Tryz.underlying188
 a39:=Tryz.isAgg188
 z39:=Tryz.sizeOf188
 v39:=Tryz.zeroValue188
 t53:=Tryz.underlying211
 a53:=Tryz.isAgg211
 z53:=Tryz.sizeOf211
 v53:=Tryz.zeroValue211
 t55:=Tryz.underlying85
 a55:=Tryz.isAgg85
 z55:=Tryz.sizeOf85
 v55:=Tryz.zeroValue85 }
end Go.Proofs

namespace Go.Ep
open Go.Shelf Go.RowKit Go.Lib Go.Sort Go.Proofs

theorem SortLaw.of {α:Type} [Inhabited α] {P:Program} {f g:FuncId} {k:Nat} {enc:α -> List Value} {lt:α -> α -> Bool} {cf:α -> α -> Int} (hO:SWO (ltOf cf)) (hlt:∀ x y,ltOf cf x y = lt x y) (hk:∀ x,(enc x).length = k)
  (hnil:∀ w:World,Calls P f #[.slice none 0 0,.func (.func g) #[] #[]] w fun e w'=>e = .returned (.tuple #[]) /\ Go.RowKit.Below w.heap.size w w')
  (hrow:∀ (blk off cap:Nat) (d:Array α) (w:World),HoldsK enc k w blk off d -> blk < w.heap.size -> d.size < 4611686018427387904 ->
   Calls P f #[.slice (some ⟨blk,off,none⟩) d.size cap,.func (.func g) #[] #[]] w fun e w'=>e = .returned (.tuple #[]) /\ ∃ n os,w' = sortWorldK enc k w blk off n (pdq (ltOf cf) d 0 d.size (Lib.bitLen d.size) true true) os):SortLaw P f g k enc lt:=by
 refine ⟨hnil,fun w blk cap l T cur hh hlc hcs hlen hcells=>?_⟩;have hblk:blk < w.heap.size:=(Array.getElem?_eq_some_iff.1 hh).1;have hH:HoldsK enc k w blk 0 l.toArray:=by
  intro j hj;rw [size_flatK] at hj;have hj':j < l.length * k:=by simpa using hj
  obtain ⟨hk0,h1,h2,h3⟩:=WW hj'
  constructor
  ·rw [Nat.zero_add,ze hh];show _ = some ((flatK enc k l.toArray)[j]!);rw [get_flatK _ _ _ _ hj];have hx:l[j / k]? = some l[j / k]:=List.getElem?_eq_getElem h1;have hlk:(enc l[j / k]).length = k:=hk _;have hu:(enc l[j / k])[j % k]? = some ((enc l[j / k])[j % k]'(by omega)):=List.getElem?_eq_getElem (by omega);have:=hcells (j / k) _ (j % k) _ hx hu;rw [h3] at this;rw [this];have e1:(l.toArray)[j / k]! = l[j / k]:=by simp [h1]
   rw [e1];simp [hu]
  ·simp [World.frozen?,hh]
 have hd:l.toArray.size = l.length:=by simp
 have hcall:=hrow blk 0 cap l.toArray w hH hblk (by simpa using hlen);rw [hd] at hcall;refine hcall.mono fun e w' ⟨he,n,os,hw⟩=>⟨he,?_⟩
 have hp:=pdq_sorts (ltOf cf) hO l.toArray 0 l.toArray.size (Lib.bitLen l.toArray.size) true true (Nat.zero_le _) (Nat.le_refl _) (Or.inl rfl);rw [hd] at hp
 generalize pdq (ltOf cf) l.toArray 0 l.length (Lib.bitLen l.length) true true = d' at hp hw
 obtain ⟨⟨hsz,_,hperm⟩,hsort⟩:=hp;have hsz':d'.size = l.length:=by simpa using hsz
 have hp':d'.toList.Perm l:=by
  have e1:(d'.extract 0 l.length).toList = d'.toList:=by rw [<- hsz'];simp
  have e2:(l.toArray.extract 0 l.length).toList = l:=by simp
  rw [e1,e2] at hperm;exact hperm
 have hmod:∀ b,b < w.heap.size -> (sortWorldK enc k w blk 0 n d' os).heap[b]? = if blk = b then (w.heap[b]?).map (onCells (putCells id 0 (flatK enc k d'))) else w.heap[b]?:=by
  intro b hb;have hb2:b < (putRowK enc k (Sort.ahead w n) blk 0 d').heap.size:=by simpa [putRowK,Sort.ahead] using hb
  show (grow (putRowK enc k (Sort.ahead w n) blk 0 d') os).heap[b]? = _;rw [Sort.heap_grow_old _ _ hb2];show ((w.heap.modify blk (onCells (putCells id 0 (flatK enc k d')))))[b]? = _;rw [Array.getElem?_modify]
 subst hw;refine ⟨d'.toList,(putCells id 0 (flatK enc k d') cur.toArray).toList,hp',?_,?_,?_,?_,rfl,rfl,rfl,?_,?_⟩
 ·rw [List.pairwise_iff_getElem];intro i j hi hj hij;have:=hsort i j (Nat.zero_le _) hij (by simpa [hsz'] using hj);rw [hlt] at this;have hi':i < d'.size:=by simpa using hi
  have hj':j < d'.size:=by simpa using hj
  simpa [hi',hj'] using this
 ·rw [hmod blk hblk,if_pos rfl,hh];simp [onCells]
 ·simp [putCells]
 ·intro i x j u hi hu;have hi':i < l.length:=by rw [<- hsz'];have:=(List.getElem?_eq_some_iff.1 hi).1;simpa using this
  have hj:j < k:=by rw [<- hk x];exact (List.getElem?_eq_some_iff.1 hu).1
  have hlt2:i * k + j < l.length * k:=Ze hi' hj;have hcl:l.length * k <= cur.length:=by rw [hcs];exact Nat.mul_le_mul_right k hlc
  have hin:i * k + j < d'.size * k:=by rw [hsz'];exact hlt2
  have hget:(flatK enc k d')[i * k + j]! = u:=by
   rw [get_flatK _ _ _ _ hin];have hk0:0 < k:=by omega
   have e1:(i * k + j) / k = i:=by rw [Nat.mul_comm,Nat.mul_add_div hk0,Nat.div_eq_of_lt hj];omega
   have e2:(i * k + j) % k = j:=by rw [Nat.mul_comm,Nat.mul_add_mod,Nat.mod_eq_of_lt hj]
   rw [e1,e2];have e3:d'[i]! = x:=by
    obtain ⟨h1,h2⟩:=List.getElem?_eq_some_iff.1 hi;have h1':i < d'.size:=by simpa using h1
    rw [getElem!_pos d' i h1'];simpa using h2
   rw [e3];simp [hu]
  have hc2:i * k + j < cur.length:=by omega
  simp only [putCells,Array.toList_mapIdx,List.getElem?_mapIdx];rw [List.getElem?_eq_getElem hc2];simp only [Option.map_some,id];rw [if_pos ⟨Nat.zero_le _,by rw [size_flatK];omega⟩,Nat.sub_zero,hget]
 ·show w.heap.size <= (grow (putRowK enc k (Sort.ahead w n) blk 0 d') os).heap.size;simp [grow,putRowK,Sort.ahead]
 ·intro b hb hne;rw [hmod b hb,if_neg (Ne.symm hne)]
end Go.Ep

