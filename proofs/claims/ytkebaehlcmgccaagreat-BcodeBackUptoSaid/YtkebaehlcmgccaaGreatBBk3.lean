/- Side texts. -/
import Derived.Test.YtkebaehlcmgccaaGreatProg
import Derived.Shelf.SlGeneric
import Derived.Shelf.SlLaysF0
import Derived.Ground.SlsfProg
import Derived.Shelf.SlSortCmp.WholeK
import Derived.Shelf.SlSortCmp.NoneTotal
import Derived.StillTactics
import Derived.RegionTactic
import Derived.Test.YtkebaehlcmgccaaGreatBBk2
set_option linter.unusedVariables false
set_option linter.unusedSimpArgs false
namespace Go.Ep
open Go

def Ve (a1:List Int) (b2:List Int):M Bool:=
 M.pure ((decide ((Qh a1) = (Qh b2))))

def wq (x1:Int):M Bool:=
 M.pure (!decide (x1 = x1))

def yn (x1:Int) (y2:Int):M Int:=
 M.bind (M.det (wq x1)) fun v3=>
 M.bind (M.det (wq y2)) fun v5=>
 cond v3
  (cond v5
   (M.pure 0)
   (M.pure (-1)))
  (cond v5
   (M.pure 1)
   (cond (decide (x1 < y2))
    (M.pure (-1))
    (cond (decide (y2 < x1))
     (M.pure 1)
     (M.pure 0))))

def uO (l1:List RN):Int × List RN -> M (M.Step (Int × List RN) (List RN)):=fun ⟨v23,some24⟩=>
 cond ((decide (v23 < (l1.length:Int))))
  (M.bind (M.bind (M.idx l1 v23) fun x27=>
  M.bind (cond (decide (0 < x27.lo))
   (cond (decide (x27.lo <= x27.hi))
    (M.pure (decide (x27.hi <= 281474976710655)))
    (M.pure false))
   (M.pure false)) (fun v29=>
  cond v29
   (M.yW ((some24.length + List.length ([x27])) * 16 <= 140737488355328) <|
   M.pure (some24 ++ [x27]))
   (M.pure some24))) (fun some26=>
  M.pure (.next (((IntKind.i64.wrap (v23 + 1)),some26)))))
  (M.pure (.done some24))
def uP (some2:List RN) (s34:List RN):Int × List RN -> M (M.Step (Int × List RN) (List RN)):=fun ⟨v69,out70⟩=>
 cond ((decide (v69 < ((some2.length):Int))))
  (M.bind (M.bind (M.idx s34 v69) fun x73=>
  M.bind (cond ((decide (0 <= ((IntKind.i64.wrap (((out70.length):Int) - 1))))))
   (M.bind (M.idx out70 ((IntKind.i64.wrap (((out70.length):Int) - 1)))) fun x77=>
   M.pure ((decide (x73.lo <= (IntKind.u64.wrap (x77.hi + 1))))))
   (M.pure false)) (fun v75=>
  cond v75
   (M.bind (M.idx out70 ((IntKind.i64.wrap (((out70.length):Int) - 1)))) fun x80=>
   M.bind (M.idx out70 ((IntKind.i64.wrap (((out70.length):Int) - 1)))) fun x82=>
   M.pure ((List.set out70 ((Int.toNat ((IntKind.i64.wrap (((out70.length):Int) - 1))))) (⟨x82.lo,(max x80.hi x73.hi)⟩:RN))))
   (M.yW ((out70.length + List.length ([x73])) * 16 <= 140737488355328) <|
   M.pure (out70 ++ [x73])))) (fun out72=>
  M.pure (.next (((IntKind.i64.wrap (v69 + 1)),out72)))))
  (M.pure (.done out70))
def xu (l1:List RN):M (List RN):=
 M.bind (M.loop (uO l1) (0,([]:List RN))) (fun some2=>
 M.yW (some2.length < 4611686018427387904)<|M.bind (M.srt qa some2) fun s34=>
 M.bind (M.loop (uP some2 s34) (0,([]:List RN))) (fun out38=>
 M.pure out38))

def wv (x1:Int):M Bool:=
 M.pure (!decide (x1 = x1))

def xn (x1:Int) (y2:Int):M Int:=
 M.bind (M.det (wv x1)) fun v3=>
 M.bind (M.det (wv y2)) fun v5=>
 cond v3
  (cond v5
   (M.pure 0)
   (M.pure (-1)))
  (cond v5
   (M.pure 1)
   (cond (decide (x1 < y2))
    (M.pure (-1))
    (cond (decide (y2 < x1))
     (M.pure 1)
     (M.pure 0))))

def Zr (m1:List (Int × List RN)):List Nat × List PT -> M (M.Step (List Nat × List PT) (List PT)):=fun ⟨seen28,c29⟩=>
 M.yW (∀ i ∈ seen28,i < m1.length)<|M.bind (M.nxt (m1.length) seen28) fun o=>match o with
 | none=>
  M.pure (.done c29)
 | some j30=>
  M.bind (M.idx m1 (Int.ofNat j30)) fun kv34=>
  M.bind (M.det (xu kv34.2)) fun v36=>
  cond ((decide (0 < ((v36.length):Int))))
   (M.yW ((c29.length + List.length ([(⟨kv34.1,v36⟩:PT)])) * 32 <= 140737488355328) <|
   M.pure (.next (((seen28 ++ [j30]),(c29 ++ [(⟨kv34.1,v36⟩:PT)])))))
   (M.pure (.next ((seen28 ++ [j30]),c29)))
def uQ (m1:List (Int × List RN)):M (List PT):=
 M.bind (M.loop (Zr m1) ([],([]:List PT))) (fun c3=>
 M.yW (c3.length < 4611686018427387904)<|M.bind (M.srt qy c3) fun s41=>
 M.pure s41)

def zi (p:PT):Option (Int × List RN):=if 0 < p.dev then some (p.dev,p.runs) else none
def Yl (c1:List PT):M (List (Int × List RN)):=
 M.yW (AL.growOK 16 (c1.length) (List.filterMap zi c1)) <|
 M.pure ((AL.grow ([]:List (Int × List RN)) (List.filterMap zi c1)))

def uH (c1:List PT):M (List PT):=
 M.bind (M.det (Yl c1)) fun v2=>
 M.bind (M.det (uQ v2)) fun v5=>
 M.pure v5

def yH (s1:List DT):M (List DT):=
 M.bind (M.isNil s1) fun b2=>
 cond b2
  (M.pure ([]:List DT))
  (M.yW ((List.length ([]:List DT) + s1.length) * 16 <= 140737488355328) <|
  M.pure (([]:List DT) ++ s1))

def yk (e1:EV):M EV:=
 M.bind (M.det (yH e1.kills)) fun v2=>
 M.pure (⟨e1.dot,e1.kind,e1.cid,e1.field,e1.text,v2⟩:EV)

def vR (a1:DT) (b2:DT):M Int:=
 M.bind (M.det (xn a1.dev b2.dev)) fun v3=>
 cond (!decide (v3 = 0))
  (M.pure v3)
  (M.bind (M.det (yn a1.n b2.n)) fun v6=>
  M.pure v6)

def Zs :Int × Int -> M (M.Step (Int × Int) Int):=fun ⟨v7,n8⟩=>
 cond (decide (0 < v7))
  (M.pure (.next (((Int.fdiv v7 (2 ^ 8)),(IntKind.i64.wrap (n8 + 1))))))
  (M.pure (.done n8))
def Vf (v1:Int):M Int:=
 M.bind (M.loop Zs (v1,0)) (fun n2=>
 M.pure n2)

def WK (v1:Int) (i2:Int):M Int:=
 cond ((decide (7 < (IntKind.u64.wrap i2))))
  (M.pure 0)
  (M.yW ((0:Int) <= ((IntKind.u64.wrap (8 * (IntKind.u64.wrap i2))))) <|
  M.pure ((IntKind.u8.wrap ((Int.fdiv v1 (2 ^ (min (Int.toNat ((IntKind.u64.wrap (8 * (IntKind.u64.wrap i2))))) 64)))))))

def uj (v2:Int):Int × List Int -> M (M.Step (Int × List Int) (List Int)):=fun ⟨i19,v20⟩=>
 cond (decide (0 <= i19))
  (M.bind (M.det (WK v2 i19)) fun v22=>
  M.yW ((v20.length + List.length ([v22])) * 1 <= 140737488355328) <|
  M.pure (.next (((IntKind.i64.wrap (i19 - 1)),(v20 ++ [v22])))))
  (M.pure (.done v20))
def WL (b1:List Int) (v2:Int):M (List Int):=
 M.bind (M.det (Vf v2)) fun v3=>
 M.yW ((0:Int) <= ((IntKind.i64.wrap (((IntKind.i64.wrap ((b1.length:Int) + v3))) + 1))) /\ ((IntKind.i64.wrap (((IntKind.i64.wrap ((b1.length:Int) + v3))) + 1))) * 1 <= 140737488355328) <|
 M.yW ((List.length ([]:List Int) + b1.length) * 1 <= 140737488355328) <|
 M.yW ((List.length (([]:List Int) ++ b1) + List.length ([(IntKind.u8.wrap v3)])) * 1 <= 140737488355328) <|
 M.bind (M.loop (uj v2) (((IntKind.i64.wrap (v3 - 1)),((([]:List Int) ++ b1) ++ [(IntKind.u8.wrap v3)])))) (fun v8=>
 M.pure v8)

def Zt (d1:DT):M Bool:=
 M.bind (cond (decide (0 < d1.dev))
  (cond (decide (0 < d1.n))
   (M.pure (decide (d1.n <= 281474976710655)))
   (M.pure false))
  (M.pure false)) (fun v2=>
 M.pure v2)

def zj (row1:List DT) (k148:Int):Int × Int × List DT -> M (M.Step (Int × Int × List DT) (Int × List DT)):=fun ⟨k197,k2_198,v199⟩=>
 cond ((decide (k2_198 < ((((row1.length - Int.toNat k148):Nat):Int)))))
  (M.bind (M.yW ((0:Int) <= k2_198 /\ k2_198 < (((row1.length - Int.toNat k148):Nat):Int))<|M.bind (M.idx v199 ((((Int.toNat k148) + Int.toNat k2_198):Nat):Int)) fun x203=>
  M.yW ((0:Int) <= (IntKind.i64.wrap (k2_198 - 1)) /\ (IntKind.i64.wrap (k2_198 - 1)) < (((row1.length - Int.toNat k148):Nat):Int))<|M.bind (M.idx v199 ((((Int.toNat k148) + Int.toNat (IntKind.i64.wrap (k2_198 - 1))):Nat):Int)) fun x207=>
  cond ((!(decide (x203.dev = x207.dev) && decide (x203.n = x207.n))))
   (M.yW ((0:Int) <= k2_198 /\ k2_198 < (((row1.length - Int.toNat k148):Nat):Int))<|M.bind (M.idx v199 ((((Int.toNat k148) + Int.toNat k2_198):Nat):Int)) fun x212=>
   M.bind (M.idx v199 k197) fun x216=>
   M.pure (((IntKind.i64.wrap (k197 + 1)),(List.set v199 (Int.toNat k197) x212))))
   (M.pure (k197,v199))) (fun ⟨k201,v202⟩=>
  M.pure (.next ((k201,(IntKind.i64.wrap (k2_198 + 1)),v202)))))
  (M.pure (.done (k197,v199)))
def zk (row1:List DT):Int -> M (M.Step Int (M.Ex Unit (List DT))):=fun k148=>
 cond ((decide (k148 < ((row1.length):Int))))
  (M.bind (M.bind (M.idx row1 k148) fun x150=>
  M.bind (M.idx row1 (IntKind.i64.wrap (k148 - 1))) fun x152=>
  cond (((decide (x150.dev = x152.dev) && decide (x150.n = x152.n))))
   (M.yW ((0:Int) <= k148 /\ k148 <= (row1.length:Int)) <|
   M.bind (M.loop (zj row1 k148) (k148,1,row1)) (fun ⟨k156,v157⟩=>
   M.yW ((0:Int) <= k156 /\ k156 <= (v157.length:Int)) <|
   M.yW ((Int.toNat k156) + (v157.length - Int.toNat k156) <= v157.length) <|
   M.yW ((0:Int) <= 0 /\ (0:Int) <= k156 /\ k156 <= (List.length ((List.take (Int.toNat k156) v157 ++ List.replicate (v157.length - Int.toNat k156) (⟨0,0⟩:DT) ++ List.drop ((Int.toNat k156) + (v157.length - Int.toNat k156)) v157)):Int)) <|
   M.pure (.ret ((.done ((.ret (((List.take (Int.toNat k156) ((List.take (Int.toNat k156) v157 ++ List.replicate (v157.length - Int.toNat k156) (⟨0,0⟩:DT) ++ List.drop ((Int.toNat k156) + (v157.length - Int.toNat k156)) v157))))))))))))
   (M.pure (.brk ()))) (M.exk (fun _=>
  M.pure (.next (IntKind.i64.wrap (k148 + 1))))))
  (M.pure (.done (.brk ())))
def zq (row1:List DT):M (List DT):=
 cond ((decide (((row1.length):Int) < 2)))
  (M.pure row1)
  (M.bind (M.loop (zk row1) 1) (M.exk (fun _=>
  M.pure row1)))

def WM (l1:List DT):M (List DT):=
 M.bind (M.det (yH l1)) fun v2=>
 M.yW (v2.length < 4611686018427387904)<|M.bind (M.srt zP v2) fun s4=>
 M.bind (M.det (zq s4)) fun y8=>
 M.pure y8

def Ud :M (List PT × Bool × (List (DT × EV)) × Bool × (List (DT × EV))):=
 M.pure ((([]:List PT),true,([]:List (DT × EV)),true,([]:List (DT × EV))))

def xJ (ctx_1:List PT) (nl2:Bool) (m3:List (DT × EV)) (nl4:Bool) (m5:List (DT × EV)):M (List PT):=
 M.bind (M.det (uH ctx_1)) fun v6=>
 M.pure v6

def yd (b1:List Int) (row2:List Int):M (List Int):=
 M.yW ((row2.length + b1.length) * 1 <= 140737488355328) <|
 M.pure (row2 ++ b1)

def zV (v1:Int) (row2:List Int):M (List Int):=
 M.bind (M.det (WL ([]:List Int) v1)) fun v3=>
 M.bind (M.det (yd v3 row2)) fun y5=>
 M.pure y5

def xz (x79:PT):Int × List Int -> M (M.Step (Int × List Int) (List Int)):=fun ⟨v101,v102⟩=>
 cond ((decide (v101 < (x79.runs.length:Int))))
  (M.bind (M.idx x79.runs v101) fun x104=>
  M.bind (M.det (zV x104.lo v102)) fun y106=>
  M.bind (M.det (zV x104.hi y106)) fun y108=>
  M.pure (.next (((IntKind.i64.wrap (v101 + 1)),y108))))
  (M.pure (.done v102))
def wA (v3:List PT):Int × List Int -> M (M.Step (Int × List Int) (List Int)):=fun ⟨v75,v76⟩=>
 cond ((decide (v75 < ((v3.length):Int))))
  (M.bind (M.bind (M.idx v3 v75) fun x79=>
  M.bind (M.det (zV (IntKind.u64.wrap x79.dev) v76)) fun y81=>
  M.bind (M.det (zV (IntKind.u64.wrap (x79.runs.length:Int)) y81)) fun y83=>
  M.loop (xz x79) (0,y83)) (fun v78=>
  M.pure (.next (((IntKind.i64.wrap (v75 + 1)),v78)))))
  (M.pure (.done v76))
def yz (c1:List PT) (row2:List Int):M (List Int):=
 M.bind (M.det (uH c1)) fun v3=>
 M.bind (M.det (zV ((IntKind.u64.wrap ((v3.length):Int))) row2)) fun y5=>
 M.loop (wA v3) (0,y5)

def Xo (m2:List (DT × EV)):List Nat × List EV -> M (M.Step (List Nat × List EV) (List EV)):=fun ⟨seen32,out33⟩=>
 M.yW (∀ i ∈ seen32,i < m2.length)<|M.bind (M.nxt (m2.length) seen32) fun o=>match o with
 | none=>
  M.pure (.done out33)
 | some j34=>
  M.bind (M.idx m2 (Int.ofNat j34)) fun kv38=>
  M.bind (M.det (yk kv38.2)) fun v40=>
  M.yW ((out33.length + List.length ([v40])) * 80 <= 140737488355328) <|
  M.pure (.next ((seen32 ++ [j34]),(out33 ++ [v40])))
def Xp (m4:List (DT × EV)):List Nat × List EV -> M (M.Step (List Nat × List EV) (List EV)):=fun ⟨seen70,out71⟩=>
 M.yW (∀ i ∈ seen70,i < m4.length)<|M.bind (M.nxt (m4.length) seen70) fun o=>match o with
 | none=>
  M.pure (.done out71)
 | some j72=>
  M.bind (M.idx m4 (Int.ofNat j72)) fun kv76=>
  M.bind (M.det (yk kv76.2)) fun v78=>
  M.yW ((out71.length + List.length ([v78])) * 80 <= 140737488355328) <|
  M.pure (.next ((seen70 ++ [j72]),(out71 ++ [v78])))
def Zu (nl1:Bool) (m2:List (DT × EV)) (nl3:Bool) (m4:List (DT × EV)):M (List EV):=
 M.bind (M.bind (M.loop (Xo m2) ([],([]:List EV))) (fun out8=>
 M.bind (M.loop (Xp m4) ([],out8)) (fun out46=>
 M.pure out46))) (fun out5=>
 M.yW (out5.length < 4611686018427387904)<|M.bind (M.srt Xn out5) fun s82=>
 M.pure s82)

def xK (ctx_1:List PT) (nl2:Bool) (m3:List (DT × EV)) (nl4:Bool) (m5:List (DT × EV)):M (List EV):=
 M.bind (M.det (Zu nl2 m3 nl4 m5)) fun y6=>
 M.pure y6

def we (d1:DT) (row2:List Int):M (List Int):=
 M.bind (M.det (zV (IntKind.u64.wrap d1.dev) row2)) fun y3=>
 M.bind (M.det (zV d1.n y3)) fun y5=>
 M.pure y5

def yo (c1:Int) (row2:List Int):M (List Int):=
 M.bind (M.det (yd ([c1]) row2)) fun y3=>
 M.pure y3

def xp (s1:ByteArray) (row2:List Int):M (List Int):=
 M.bind (M.det (zV (IntKind.u64.wrap (ByteArray.size s1:Int)) row2)) fun y3=>
 M.yW (ByteArray.size s1 <= 9223372036854775807) <|
 M.bind (M.det (yd (yF s1) y3)) fun y6=>
 M.pure y6

def yp (l1:List DT):Int × List DT -> M (M.Step (Int × List DT) (List DT)):=fun ⟨v22,some23⟩=>
 cond ((decide (v22 < (l1.length:Int))))
  (M.bind (M.bind (M.idx l1 v22) fun x26=>
  M.bind (M.det (Zt x26)) fun v28=>
  cond v28
   (M.yW ((some23.length + List.length ([x26])) * 16 <= 140737488355328) <|
   M.pure (some23 ++ [x26]))
   (M.pure some23)) (fun some25=>
  M.pure (.next (((IntKind.i64.wrap (v22 + 1)),some25)))))
  (M.pure (.done some23))
def xq (v32:List DT):Int × List Int -> M (M.Step (Int × List Int) (List Int)):=fun ⟨v48,v49⟩=>
 cond ((decide (v48 < ((v32.length):Int))))
  (M.bind (M.idx v32 v48) fun x51=>
  M.bind (M.det (we x51 v49)) fun y53=>
  M.pure (.next (((IntKind.i64.wrap (v48 + 1)),y53))))
  (M.pure (.done v49))
def vS (l1:List DT) (row2:List Int):M (List Int):=
 M.bind (M.loop (yp l1) (0,([]:List DT))) (fun some3=>
 M.bind (M.det (WM some3)) fun v32=>
 M.bind (M.det (zV ((IntKind.u64.wrap ((v32.length):Int))) row2)) fun y34=>
 M.loop (xq v32) (0,y34))

def Ym (e1:EV) (row2:List Int):M (List Int):=
 M.bind (M.det (we e1.dot row2)) fun y3=>
 M.bind (M.det (yo e1.kind y3)) fun y5=>
 M.bind (M.det (zV e1.cid y5)) fun y7=>
 M.bind (M.det (yo e1.field y7)) fun y9=>
 M.bind (M.det (xp e1.text y9)) fun y11=>
 M.bind (M.det (vS e1.kills y11)) fun y13=>
 M.pure y13

def wG (l1:List EV):Int × List Int -> M (M.Step (Int × List Int) (List Int)):=fun ⟨v17,v18⟩=>
 cond ((decide (v17 < (l1.length:Int))))
  (M.bind (M.idx l1 v17) fun x20=>
  M.bind (M.det (Ym x20 v18)) fun y22=>
  M.pure (.next (((IntKind.i64.wrap (v17 + 1)),y22))))
  (M.pure (.done v18))
def xb (l1:List EV) (row2:List Int):M (List Int):=
 M.bind (M.det (zV (IntKind.u64.wrap (l1.length:Int)) row2)) fun y3=>
 M.loop (wG l1) (0,y3)

def zr (row1:List Int):M (List Int × List Int):=
 M.yW (row1.length * 1 <= 140737488355328) <|
 M.pure (row1,row1)

def xd (ctx_1:List PT) (nl2:Bool) (m3:List (DT × EV)) (nl4:Bool) (m5:List (DT × EV)):M (List Int):=
 M.bind (M.det (xJ ctx_1 nl2 m3 nl4 m5)) fun y6=>
 M.bind (M.det (yz y6 ([]:List Int))) fun y8=>
 M.bind (M.det (xK ctx_1 nl2 m3 nl4 m5)) fun y10=>
 M.bind (M.det (xb y10 y8)) fun y12=>
 M.bind (M.det (zr y12)) fun y14=>
 M.pure y14.2

def vt :M (List PT):=
 M.pure ([]:List PT)

def vu :M (List EV):=
 M.pure ([]:List EV)

def ww :M (List Int):=
 M.bind (M.det (vt)) fun v1=>
 M.bind (M.det (yz v1 ([]:List Int))) fun y3=>
 M.bind (M.det (vu)) fun v5=>
 M.bind (M.det (xb v5 y3)) fun y7=>
 M.bind (M.det (zr y7)) fun y9=>
 M.pure y9.2

def Xq :M Bool:=
 M.bind (M.bind (M.det (Ud)) fun y2=>
 M.bind (M.det (xd y2.1 y2.2.1 y2.2.2.1 y2.2.2.2.1 y2.2.2.2.2)) fun y4=>
 M.bind (M.det (Ve y4 ([0,0]))) fun v6=>
 cond v6
  (M.bind (M.det (ww)) fun v9=>
  M.bind (M.det (Ve v9 ([0,0]))) fun v11=>
  M.pure v11)
  (M.pure false)) (fun v1=>
 M.pure v1)

def JP (x1:RN):M Bool:=
 M.bind (cond (decide (1 <= x1.lo))
  (cond (decide (x1.lo <= x1.hi))
   (M.pure (decide (x1.hi <= 281474976710655)))
   (M.pure false))
  (M.pure false)) (fun v2=>
 M.pure v2)

def WN (l1:List RN) (n2:Int):Int -> M (M.Step Int (M.Ex Unit Bool)):=fun i30=>
 cond ((decide (i30 < (l1.length:Int))))
  (M.bind (M.bind (M.idx l1 i30) fun x33=>
  M.bind (M.det (JP x33)) fun v35=>
  cond v35
   (M.bind (M.idx l1 i30) fun x38=>
   cond (decide (x38.lo <= n2))
    (M.bind (M.idx l1 i30) fun x41=>
    M.pure (decide (n2 <= x41.hi)))
    (M.pure false))
   (M.pure false)) (fun v32=>
  cond v32
   (M.pure (.done (.ret true)))
   (M.pure (.next (IntKind.i64.wrap (i30 + 1))))))
  (M.pure (.done (.brk ())))
def Ue (l1:List RN) (n2:Int):M Bool:=
 M.bind (M.loop (WN l1 n2) 0) (M.exk (fun _=>
 M.pure false))

def WO (l1:List Int) (n2:Int):Bool × Int × List Int -> M (M.Step (Bool × Int × List Int) (Bool × List Int)):=fun ⟨done43,i44,out45⟩=>
 cond ((decide (i44 < (l1.length:Int))))
  (M.bind (M.bind (cond (!done43)
   (M.bind (M.idx l1 i44) fun x51=>
   M.pure (decide (n2 <= x51)))
   (M.pure false)) (fun v49=>
  M.bind (cond v49
   (M.yW ((out45.length + List.length ([n2])) * 8 <= 140737488355328) <|
   M.pure (true,(out45 ++ [n2])))
   (M.pure (done43,out45))) (fun ⟨done53,out54⟩=>
  M.bind (M.idx l1 i44) fun x57=>
  cond (!decide (x57 = n2))
   (M.bind (M.idx l1 i44) fun x60=>
   M.yW ((out54.length + List.length ([x60])) * 8 <= 140737488355328) <|
   M.pure (done53,(out54 ++ [x60])))
   (M.pure (done53,out54))))) (fun ⟨done47,out48⟩=>
  M.pure (.next ((done47,(IntKind.i64.wrap (i44 + 1)),out48)))))
  (M.pure (.done (done43,out45)))
def JQ (l1:List Int) (n2:Int):M (List Int):=
 M.bind (M.loop (WO l1 n2) (false,0,([]:List Int))) (fun ⟨done3,out4⟩=>
 M.bind (cond (!done3)
  (M.yW ((out4.length + List.length ([n2])) * 8 <= 140737488355328) <|
  M.pure (out4 ++ [n2]))
  (M.pure out4)) (fun out63=>
 M.pure out63))

def uk (a1:List RN) (b2:List RN):List Int × Int -> M (M.Step (List Int × Int) (List Int)):=fun ⟨out38,i39⟩=>
 cond ((decide (i39 < (((List.length ((([]:List RN) ++ a1) ++ b2)):Int)))))
  (M.bind (M.bind (M.idx (((([]:List RN) ++ a1) ++ b2)) i39) fun x42=>
  M.bind (M.det (JP x42)) fun v44=>
  cond v44
   (M.bind (M.idx (((([]:List RN) ++ a1) ++ b2)) i39) fun x47=>
   M.bind (M.det (JQ out38 x47.lo)) fun v49=>
   M.bind (M.idx (((([]:List RN) ++ a1) ++ b2)) i39) fun x51=>
   M.bind (M.det (JQ v49 (IntKind.u64.wrap (x51.hi + 1)))) fun v53=>
   M.pure v53)
   (M.pure out38)) (fun out41=>
  M.pure (.next ((out41,(IntKind.i64.wrap (i39 + 1)))))))
  (M.pure (.done out38))
def WP (a1:List RN) (b2:List RN):M (List Int):=
 M.yW ((List.length ([]:List RN) + a1.length) * 16 <= 140737488355328) <|
 M.yW ((List.length (([]:List RN) ++ a1) + b2.length) * 16 <= 140737488355328) <|
 M.bind (M.loop (uk a1 b2) (([]:List Int),0)) (fun out5=>
 M.pure out5)

def WQ (v4:List Int) (a1:List RN) (b2:List RN) (how3:Int):Int × List RN -> M (M.Step (Int × List RN) (List RN)):=fun ⟨i85,out86⟩=>
 cond ((decide ((IntKind.i64.wrap (i85 + 1)) < (v4.length:Int))))
  (M.bind (M.bind (M.idx v4 i85) fun x89=>
  M.bind (M.det (Ue a1 x89)) fun v91=>
  M.bind (M.idx v4 i85) fun x93=>
  M.bind (M.det (Ue b2 x93)) fun v95=>
  M.bind (cond v91
   (M.pure true)
   (M.pure v95)) (fun in97=>
  M.bind (cond (decide (how3 = 1))
   (M.bind (cond v91
    (M.pure v95)
    (M.pure false)) (fun in101=>
   M.pure in101))
   (M.pure in97)) (fun in99=>
  M.bind (cond (decide (how3 = 2))
   (M.bind (cond v91
    (M.pure (!v95))
    (M.pure false)) (fun in105=>
   M.pure in105))
   (M.pure in99)) (fun in103=>
  M.bind (cond in103
   (cond ((decide (0 <= ((IntKind.i64.wrap (((out86.length):Int) - 1))))))
    (M.bind (M.idx out86 ((IntKind.i64.wrap (((out86.length):Int) - 1)))) fun x110=>
    M.bind (M.idx v4 i85) fun x112=>
    M.pure ((decide ((IntKind.u64.wrap (x110.hi + 1)) = x112))))
    (M.pure false))
   (M.pure false)) (fun v107=>
  cond v107
   (M.bind (M.idx v4 (IntKind.i64.wrap (i85 + 1))) fun x115=>
   M.bind (M.idx out86 ((IntKind.i64.wrap (((out86.length):Int) - 1)))) fun x117=>
   M.pure ((List.set out86 ((Int.toNat ((IntKind.i64.wrap (((out86.length):Int) - 1))))) ((⟨x117.lo,(IntKind.u64.wrap (x115 - 1))⟩:RN)))))
   (cond in103
    (M.bind (M.idx v4 i85) fun x120=>
    M.bind (M.idx v4 (IntKind.i64.wrap (i85 + 1))) fun x122=>
    M.yW ((out86.length + List.length ([(⟨x120,(IntKind.u64.wrap (x122 - 1))⟩:RN)])) * 16 <= 140737488355328) <|
    M.pure ((out86 ++ [(⟨x120,(IntKind.u64.wrap (x122 - 1))⟩:RN)])))
    (M.pure out86))))))) (fun out88=>
  M.pure (.next (((IntKind.i64.wrap (i85 + 1)),out88)))))
  (M.pure (.done out86))
def Uf (a1:List RN) (b2:List RN) (how3:Int):M (List RN):=
 M.bind (M.det (WP a1 b2)) fun v4=>
 M.bind (M.loop (WQ v4 a1 b2 how3) (0,([]:List RN))) (fun out6=>
 M.pure out6)

def Vg (a1:List RN) (b2:List RN):M (List RN):=
 M.bind (M.det (Uf a1 b2 0)) fun v3=>
 M.pure v3

def Yn (c1:List PT) (dev2:Int):List RN × Int -> M (M.Step (List RN × Int) (List RN)):=fun ⟨out28,i29⟩=>
 cond ((decide (i29 < (c1.length:Int))))
  (M.bind (M.bind (M.bind (M.idx c1 i29) fun x33=>
  cond (decide (x33.dev = dev2))
   (M.pure (!decide (dev2 = 0)))
   (M.pure false)) (fun v32=>
  cond v32
   (M.bind (M.idx c1 i29) fun x37=>
   M.bind (M.det (Vg out28 x37.runs)) fun v39=>
   M.pure v39)
   (M.pure out28))) (fun out31=>
  M.pure (.next ((out31,(IntKind.i64.wrap (i29 + 1)))))))
  (M.pure (.done out28))
def WR (c1:List PT) (dev2:Int):M (List RN):=
 M.bind (M.loop (Yn c1 dev2) (([]:List RN),0)) (fun out3=>
 M.pure out3)

def Yo (a1:DT) (b2:DT):M Int:=
 cond (((decide (a1.dev = b2.dev) && decide (a1.n = b2.n))))
  (M.pure 0)
  (M.bind (cond (decide (a1.dev < b2.dev))
   (M.pure true)
   (cond (decide (a1.dev = b2.dev))
    (M.pure (decide (a1.n < b2.n)))
    (M.pure false))) (fun v4=>
  cond v4
   (M.pure (-1))
   (M.pure 1)))

def WS (l1:List DT) (d2:DT):Int × List DT -> M (M.Step (Int × List DT) (List DT)):=fun ⟨i26,out27⟩=>
 cond ((decide (i26 < (l1.length:Int))))
  (M.bind (M.bind (M.idx l1 i26) fun x30=>
  M.bind (M.det (Yo x30 d2)) fun v32=>
  cond (decide (v32 < 0))
   (M.bind (M.idx l1 i26) fun x35=>
   M.yW ((out27.length + List.length ([x35])) * 16 <= 140737488355328) <|
   M.pure (out27 ++ [x35]))
   (M.pure out27)) (fun out29=>
  M.pure (.next (((IntKind.i64.wrap (i26 + 1)),out29)))))
  (M.pure (.done out27))
def YO (l1:List DT) (d2:DT):Int × List DT -> M (M.Step (Int × List DT) (List DT)):=fun ⟨i62,out63⟩=>
 cond ((decide (i62 < (l1.length:Int))))
  (M.bind (M.bind (M.idx l1 i62) fun x66=>
  M.bind (M.det (Yo x66 d2)) fun v68=>
  cond (decide (0 < v68))
   (M.bind (M.idx l1 i62) fun x71=>
   M.yW ((out63.length + List.length ([x71])) * 16 <= 140737488355328) <|
   M.pure (out63 ++ [x71]))
   (M.pure out63)) (fun out65=>
  M.pure (.next (((IntKind.i64.wrap (i62 + 1)),out65)))))
  (M.pure (.done out63))
def Yp (l1:List DT) (d2:DT):M (List DT):=
 M.bind (M.loop (WS l1 d2) (0,([]:List DT))) (fun out3=>
 M.yW ((out3.length + List.length ([d2])) * 16 <= 140737488355328) <|
 M.bind (M.loop (YO l1 d2) (0,(out3 ++ [d2]))) (fun out39=>
 M.pure out39))

def Yq (a1:List PT):List DT × Int -> M (M.Step (List DT × Int) (List DT)):=fun ⟨out16,i17⟩=>
 cond ((decide (i17 < (a1.length:Int))))
  (M.bind (M.idx a1 i17) fun x19=>
  M.bind (M.det (Yp out16 (⟨x19.dev,1⟩:DT))) fun v21=>
  M.pure (.next ((v21,(IntKind.i64.wrap (i17 + 1))))))
  (M.pure (.done out16))
def ZK (b2:List PT):List DT × Int -> M (M.Step (List DT × Int) (List DT)):=fun ⟨out36,i37⟩=>
 cond ((decide (i37 < (b2.length:Int))))
  (M.bind (M.idx b2 i37) fun x39=>
  M.bind (M.det (Yp out36 (⟨x39.dev,1⟩:DT))) fun v41=>
  M.pure (.next ((v41,(IntKind.i64.wrap (i37 + 1))))))
  (M.pure (.done out36))
def jS (a1:List PT) (b2:List PT):M (List DT):=
 M.bind (M.loop (Yq a1) (([]:List DT),0)) (fun out3=>
 M.bind (M.loop (ZK b2) (out3,0)) (fun out23=>
 M.pure out23))

def jT (a1:List RN) (b2:List RN):M (List RN):=
 M.bind (M.det (Uf a1 b2 1)) fun v3=>
 M.pure v3

def Vh (a1:List RN) (b2:List RN):M (List RN):=
 M.bind (M.det (Uf a1 b2 2)) fun v3=>
 M.pure v3

def WT (v4:List DT) (a1:List PT) (b2:List PT) (how3:Int):Int × List PT -> M (M.Step (Int × List PT) (List PT)):=fun ⟨i57,out58⟩=>
 cond ((decide (i57 < (v4.length:Int))))
  (M.bind (M.bind (M.idx v4 i57) fun x61=>
  M.bind (M.det (WR a1 x61.dev)) fun v63=>
  M.bind (M.idx v4 i57) fun x65=>
  M.bind (M.det (WR b2 x65.dev)) fun v67=>
  M.bind (M.det (Vg v63 v67)) fun v69=>
  M.bind (cond (decide (how3 = 1))
   (M.bind (M.det (jT v63 v67)) fun v73=>
   M.pure v73)
   (M.pure v69)) (fun z71=>
  M.bind (cond (decide (how3 = 2))
   (M.bind (M.det (Vh v63 v67)) fun v77=>
   M.pure v77)
   (M.pure z71)) (fun z75=>
  cond ((decide (0 < (z75.length:Int))))
   (M.bind (M.idx v4 i57) fun x80=>
   M.yW ((out58.length + List.length ([(⟨x80.dev,z75⟩:PT)])) * 32 <= 140737488355328) <|
   M.pure (out58 ++ [(⟨x80.dev,z75⟩:PT)]))
   (M.pure out58)))) (fun out60=>
  M.pure (.next (((IntKind.i64.wrap (i57 + 1)),out60)))))
  (M.pure (.done out58))
def Ug (a1:List PT) (b2:List PT) (how3:Int):M (List PT):=
 M.bind (M.det (jS a1 b2)) fun v4=>
 M.bind (M.loop (WT v4 a1 b2 how3) (0,([]:List PT))) (fun out6=>
 M.pure out6)

def ul (c1:List PT):M (List PT):=
 M.bind (M.det (Ug c1 ([]:List PT) 0)) fun v2=>
 M.pure v2

def uUa (a1:List RN) (b2:List RN):Int -> M (M.Step Int (M.Ex Unit Bool)):=fun i17=>
 cond ((decide (i17 < (a1.length:Int))))
  (M.bind (M.idx a1 i17) fun x19=>
  M.bind (M.idx b2 i17) fun x21=>
  cond ((!(decide (x19.lo = x21.lo) && decide (x19.hi = x21.hi))))
   (M.pure (.done (.ret false)))
   (M.pure (.next (IntKind.i64.wrap (i17 + 1)))))
  (M.pure (.done (.brk ())))
def wZa (a1:List RN) (b2:List RN):M Bool:=
 cond ((!decide ((a1.length:Int) = (b2.length:Int))))
  (M.pure false)
  (M.bind (M.loop (uUa a1 b2) 0) (M.exk (fun _=>
  M.pure true)))

def Vi (a1:List PT) (b2:List PT):Int -> M (M.Step Int (M.Ex Unit Bool)):=fun i33=>
 cond ((decide (i33 < (a1.length:Int))))
  (M.bind (M.bind (M.idx a1 i33) fun x36=>
  M.bind (M.idx b2 i33) fun x38=>
  cond (!decide (x36.dev = x38.dev))
   (M.pure true)
   (M.bind (M.idx a1 i33) fun x41=>
   M.bind (M.idx b2 i33) fun x43=>
   M.bind (M.det (wZa x41.runs x43.runs)) fun v45=>
   M.pure (!v45))) (fun v35=>
  cond v35
   (M.pure (.done (.ret false)))
   (M.pure (.next (IntKind.i64.wrap (i33 + 1))))))
  (M.pure (.done (.brk ())))
def qz (a1:List PT) (b2:List PT):M Bool:=
 cond ((!decide ((a1.length:Int) = (b2.length:Int))))
  (M.pure false)
  (M.bind (M.loop (Vi a1 b2) 0) (M.exk (fun _=>
  M.pure true)))

def Vj (a1:List PT) (b2:List PT):M Bool:=
 M.bind (M.det (ul a1)) fun v3=>
 M.bind (M.det (ul b2)) fun v5=>
 M.bind (M.det (qz v3 v5)) fun v7=>
 M.pure v7

def Yr (a1:List DT) (b2:List DT):Int -> M (M.Step Int (M.Ex Unit Bool)):=fun i17=>
 cond ((decide (i17 < (a1.length:Int))))
  (M.bind (M.idx a1 i17) fun x19=>
  M.bind (M.idx b2 i17) fun x21=>
  cond ((!(decide (x19.dev = x21.dev) && decide (x19.n = x21.n))))
   (M.pure (.done (.ret false)))
   (M.pure (.next (IntKind.i64.wrap (i17 + 1)))))
  (M.pure (.done (.brk ())))
def Vk (a1:List DT) (b2:List DT):M Bool:=
 cond ((!decide ((a1.length:Int) = (b2.length:Int))))
  (M.pure false)
  (M.bind (M.loop (Yr a1 b2) 0) (M.exk (fun _=>
  M.pure true)))

def jU (a1:EV) (b2:EV):M Bool:=
 M.bind (cond (((decide (a1.dot.dev = b2.dot.dev) && decide (a1.dot.n = b2.dot.n))))
  (cond (decide (a1.kind = b2.kind))
   (cond (decide (a1.cid = b2.cid))
    (cond (decide (a1.field = b2.field))
     (cond (decide (a1.text = b2.text))
      (M.bind (M.det (Vk a1.kills b2.kills)) fun v9=>
      M.pure v9)
      (M.pure false))
     (M.pure false))
    (M.pure false))
   (M.pure false))
  (M.pure false)) (fun v3=>
 M.pure v3)

def WU (a1:List EV) (b2:List EV):Int -> M (M.Step Int (M.Ex Unit Bool)):=fun i21=>
 cond ((decide (i21 < (a1.length:Int))))
  (M.bind (M.idx a1 i21) fun x23=>
  M.bind (M.idx b2 i21) fun x25=>
  M.bind (M.det (jU x23 x25)) fun v27=>
  cond (!v27)
   (M.pure (.done (.ret false)))
   (M.pure (.next (IntKind.i64.wrap (i21 + 1)))))
  (M.pure (.done (.brk ())))
def Qk (a1:List EV) (b2:List EV):M Bool:=
 cond ((!decide ((a1.length:Int) = (b2.length:Int))))
  (M.pure false)
  (M.bind (M.loop (WU a1 b2) 0) (M.exk (fun _=>
  M.pure true)))

def jV (a1:DL) (b2:DL):M Bool:=
 M.bind (M.bind (M.det (Vj a1.from_ b2.from_)) fun v4=>
 cond v4
  (M.bind (M.det (Vj a1.to_ b2.to_)) fun v7=>
  cond v7
   (M.bind (M.det (Qk a1.events b2.events)) fun v10=>
   M.pure v10)
   (M.pure false))
  (M.pure false)) (fun v3=>
 M.pure v3)

def Zk (s1_1:List RN) (s2_2:List RN):Int -> M (M.Step Int (M.Ex Unit Bool)):=fun v17=>
 cond ((decide (v17 < (s1_1.length:Int))))
  (M.bind (M.idx s1_1 v17) fun x19=>
  M.bind (M.idx s2_2 v17) fun x21=>
  cond ((!(decide (x19.lo = x21.lo) && decide (x19.hi = x21.hi))))
   (M.pure (.done (.ret false)))
   (M.pure (.next (IntKind.i64.wrap (v17 + 1)))))
  (M.pure (.done (.brk ())))
def yZ (s1_1:List RN) (s2_2:List RN):M Bool:=
 cond ((!decide ((s1_1.length:Int) = (s2_2.length:Int))))
  (M.pure false)
  (M.bind (M.loop (Zk s1_1 s2_2) 0) (M.exk (fun _=>
  M.pure true)))

def JR (x1:PT) (y2:PT):M Bool:=
 M.bind (cond (decide (x1.dev = y2.dev))
  (M.bind (M.det (yZ x1.runs y2.runs)) fun v5=>
  M.pure v5)
  (M.pure false)) (fun v3=>
 M.pure v3)

def zS (s1_1:List PT) (s2_2:List PT):Int -> M (M.Step Int (M.Ex Unit Bool)):=fun v21=>
 cond ((decide (v21 < (s1_1.length:Int))))
  (M.bind (M.idx s1_1 v21) fun x23=>
  M.bind (M.idx s2_2 v21) fun x25=>
  M.bind (M.det (JR x23 x25)) fun v27=>
  cond (!v27)
   (M.pure (.done (.ret false)))
   (M.pure (.next (IntKind.i64.wrap (v21 + 1)))))
  (M.pure (.done (.brk ())))
def zX (s1_1:List PT) (s2_2:List PT):M Bool:=
 cond ((!decide ((s1_1.length:Int) = (s2_2.length:Int))))
  (M.pure false)
  (M.bind (M.loop (zS s1_1 s2_2) 0) (M.exk (fun _=>
  M.pure true)))

def yLa (a1:List PT) (b2:List PT):M Bool:=
 M.bind (M.det (zX a1 b2)) fun v3=>
 M.pure v3

def uI (c1:List PT):M Bool:=
 M.bind (M.det (uH c1)) fun v2=>
 M.bind (M.det (yLa c1 v2)) fun v4=>
 M.pure v4

def ZL (x7:Int) (at2:Int) (b1:List Int):Int × Int -> M (M.Step (Int × Int) Int):=fun ⟨v28,v29⟩=>
 cond ((decide (v29 < ((List.length ((List.drop (Int.toNat 0) (List.take (Int.toNat (IntKind.i64.wrap x7)) ((List.drop (Int.toNat (IntKind.i64.wrap (at2 + 1))) (List.take (Int.toNat (b1.length:Int)) b1)))))):Int)))))
  (M.bind (M.idx ((List.drop (Int.toNat 0) (List.take (Int.toNat (IntKind.i64.wrap x7)) ((List.drop (Int.toNat (IntKind.i64.wrap (at2 + 1))) (List.take (Int.toNat (b1.length:Int)) b1)))))) v29) fun x31=>
  M.pure (.next (((bOr .u64 (IntKind.u64.wrap (v28 * 2 ^ 8)) (IntKind.u64.wrap x31)),(IntKind.i64.wrap (v29 + 1))))))
  (M.pure (.done v28))
def jW (b1:List Int) (at2:Int):M (Int × Int × Int):=
 M.bind (cond (decide (at2 < 0))
  (M.pure true)
  (M.pure ((decide ((b1.length:Int) < at2))))) (fun v3=>
 cond v3
  (M.pure (0,0,1))
  (cond ((decide (at2 = (b1.length:Int))))
   (M.pure (0,0,2))
   (M.bind (M.idx b1 at2) fun x7=>
   M.yW ((0:Int) <= (IntKind.i64.wrap (at2 + 1)) /\ ((IntKind.i64.wrap (at2 + 1)):Int) <= (b1.length:Int) /\ (b1.length:Int) <= (b1.length:Int)) <|
   M.bind (cond ((decide (8 < (IntKind.i64.wrap x7))))
    (M.pure true)
    (cond ((decide (0 < (IntKind.i64.wrap x7))))
     (cond ((decide (0 < ((List.length ((List.drop (Int.toNat (IntKind.i64.wrap (at2 + 1))) (List.take (Int.toNat (b1.length:Int)) b1))):Int)))))
      (M.bind (M.idx ((List.drop (Int.toNat (IntKind.i64.wrap (at2 + 1))) (List.take (Int.toNat (b1.length:Int)) b1))) 0) fun x14=>
      M.pure (decide (x14 = 0)))
      (M.pure false))
     (M.pure false))) (fun v10=>
   cond v10
    (M.pure (0,0,4))
    (cond ((decide (((List.length ((List.drop (Int.toNat (IntKind.i64.wrap (at2 + 1))) (List.take (Int.toNat (b1.length:Int)) b1))):Int)) < (IntKind.i64.wrap x7))))
     (M.pure (0,0,2))
     (M.yW ((0:Int) <= 0 /\ (0:Int) <= (IntKind.i64.wrap x7) /\ (IntKind.i64.wrap x7) <= (List.length ((List.drop (Int.toNat (IntKind.i64.wrap (at2 + 1))) (List.take (Int.toNat (b1.length:Int)) b1))):Int)) <|
     M.bind (M.loop (ZL x7 at2 b1) (0,0)) (fun v19=>
     M.pure ((v19,(IntKind.i64.wrap ((IntKind.i64.wrap (at2 + 1)) + (IntKind.i64.wrap x7))),0)))))))))

def Ys (v1:Int):M (Int × Int):=
 M.pure (((IntKind.u16.wrap (Int.fdiv v1 (2 ^ 48))),(bAnd .u64 v1 281474976710655)))

def WV (v1:Int):M (DT × Bool):=
 M.bind (M.det (Ys v1)) fun v2=>
 M.bind (M.det (Zt (⟨v2.1,v2.2⟩:DT))) fun v4=>
 cond (!v4)
  (M.pure ((⟨0,0⟩:DT),false))
  (M.pure ((⟨v2.1,v2.2⟩:DT),true))

def WW (f1:Int):M Bool:=
 M.bind (cond (decide (1 <= f1))
  (M.pure (decide (f1 <= 5)))
  (M.pure false)) (fun v2=>
 M.pure v2)

def vT (s1:ByteArray):Int -> M (M.Step Int (M.Ex Unit Bool)):=fun v20=>
 cond ((decide (v20 < (ByteArray.size s1:Int))))
  (M.bind (M.bind (M.idx (yF s1) v20) fun b23=>
  cond (decide (b23 < 32))
   (M.pure true)
   (M.bind (M.idx (yF s1) v20) fun b26=>
   M.pure (decide (126 < b26)))) (fun v22=>
  cond v22
   (M.pure (.done (.ret false)))
   (M.pure (.next (IntKind.i64.wrap (v20 + 1))))))
  (M.pure (.done (.brk ())))
def WX (s1:ByteArray):M Bool:=
 cond ((decide (60 < (ByteArray.size s1:Int))))
  (M.pure false)
  (M.bind (M.loop (vT s1) 0) (M.exk (fun _=>
  M.pure true)))

def yq (l1:List DT):Int -> M (M.Step Int (M.Ex Unit Bool)):=fun v23=>
 cond ((decide (v23 < (l1.length:Int))))
  (M.bind (cond (decide (0 < v23))
   (M.bind (M.idx l1 (IntKind.i64.wrap (v23 - 1))) fun x27=>
   M.bind (M.idx l1 v23) fun x29=>
   M.bind (M.det (vR x27 x29)) fun v31=>
   M.pure (decide (0 <= v31)))
   (M.pure false)) (fun v25=>
  cond v25
   (M.pure (.done (.ret false)))
   (M.pure (.next (IntKind.i64.wrap (v23 + 1))))))
  (M.pure (.done (.brk ())))
def WY (l1:List DT):M Bool:=
 M.bind (M.loop (yq l1) 0) (M.exk (fun _=>
 M.pure true))

def vU (e1:EV):Int -> M (M.Step Int (M.Ex Unit Bool)):=fun v43=>
 cond ((decide (v43 < (e1.kills.length:Int))))
  (M.bind (M.idx e1.kills v43) fun x45=>
  M.bind (M.bind (M.det (Zt x45)) fun v48=>
  cond (!v48)
   (M.pure true)
   (M.pure (((decide (x45.dev = e1.dot.dev) && decide (x45.n = e1.dot.n)))))) (fun v47=>
  cond v47
   (M.pure (.done (.ret false)))
   (M.pure (.next (IntKind.i64.wrap (v43 + 1))))))
  (M.pure (.done (.brk ())))
def wH (e1:EV):M Bool:=
 M.bind (M.det (WV e1.cid)) fun v2=>
 M.bind (cond (!v2.2)
  (M.pure true)
  (M.bind (M.det (Zt e1.dot)) fun v6=>
  M.pure (!v6))) (fun v4=>
 cond v4
  (M.pure false)
  (M.bind (cond (decide (e1.kind = 1))
   (M.bind (M.bind (M.det (WW e1.field)) fun v11=>
   cond (!v11)
    (M.pure true)
    (M.bind (M.det (WX e1.text)) fun v14=>
    M.pure (!v14))) (fun v10=>
   cond v10
    (M.pure (.ret false))
    (M.pure (.brk ()))))
   (cond (decide (e1.kind = 2))
    (M.bind (cond (!decide (e1.field = 0))
     (M.pure true)
     (M.pure ((!decide (e1.text = (⟨#[]⟩:ByteArray)))))) (fun v18=>
    cond v18
     (M.pure (.ret false))
     (M.pure (.brk ()))))
    (M.pure (.ret false)))) (M.exk (fun _=>
  M.bind (cond ((decide (256 < (e1.kills.length:Int))))
   (M.pure true)
   (M.bind (M.det (WY e1.kills)) fun v23=>
   M.pure (!v23))) (fun v21=>
  cond v21
   (M.pure false)
   (M.bind (M.loop (vU e1) 0) (M.exk (fun _=>
   M.pure true))))))))

def yQ (s1:List DT) (v2:DT):Int -> M (M.Step Int (M.Ex Unit Int)):=fun v12=>
 cond ((decide (v12 < (s1.length:Int))))
  (M.bind (M.idx s1 v12) fun x14=>
  cond (((decide (v2.dev = x14.dev) && decide (v2.n = x14.n))))
   (M.pure (.done (.ret v12)))
   (M.pure (.next (IntKind.i64.wrap (v12 + 1)))))
  (M.pure (.done (.brk ())))
def xV (s1:List DT) (v2:DT):M Int:=
 M.bind (M.loop (yQ s1 v2) 0) (M.exk (fun _=>
 M.pure (-1)))

def yi (s1:List DT) (v2:DT):M Bool:=
 M.bind (M.det (xV s1 v2)) fun v3=>
 M.pure (decide (0 <= v3))

def Ql (l1:List DT) (d2:DT):M Bool:=
 M.bind (M.det (yi l1 d2)) fun v3=>
 M.pure v3

def VE (e1:EV) (d2:DT):M Bool:=
 M.bind (M.det (Ql e1.kills d2)) fun v3=>
 M.pure v3

def um (l1:List EV) (d2:DT):Int -> M (M.Step Int (M.Ex Unit Bool)):=fun v16=>
 cond ((decide (v16 < (l1.length:Int))))
  (M.bind (M.idx l1 v16) fun x18=>
  M.bind (M.det (VE x18 d2)) fun v20=>
  cond v20
   (M.pure (.done (.ret true)))
   (M.pure (.next (IntKind.i64.wrap (v16 + 1)))))
  (M.pure (.done (.brk ())))
def vM (l1:List EV) (d2:DT):M Bool:=
 M.bind (M.loop (um l1 d2) 0) (M.exk (fun _=>
 M.pure false))

def ZM (x1:RN) (n2:Int):M Int:=
 M.bind (M.det (yn x1.hi n2)) fun v3=>
 M.pure v3

def zU (x1:List RN) (target2:Int):Int × Int -> M (M.Step (Int × Int) Int):=fun ⟨i18,j19⟩=>
 cond (decide (i18 < j19))
  (M.bind (M.idx x1 ((IntKind.i64.wrap ((Int.fdiv ((IntKind.u64.wrap (IntKind.i64.wrap (i18 + j19)))) (2 ^ 1)))))) fun x21=>
  M.bind (M.det (ZM x21 target2)) fun v23=>
  cond (decide (v23 < 0))
   (M.pure (.next (((IntKind.i64.wrap (((IntKind.i64.wrap ((Int.fdiv ((IntKind.u64.wrap (IntKind.i64.wrap (i18 + j19)))) (2 ^ 1))))) + 1)),j19))))
   (M.pure (.next ((i18,(IntKind.i64.wrap ((Int.fdiv ((IntKind.u64.wrap (IntKind.i64.wrap (i18 + j19)))) (2 ^ 1)))))))))
  (M.pure (.done i18))
def zN (x1:List RN) (target2:Int):M (Int × Bool):=
 M.bind (M.loop (zU x1 target2) (0,(x1.length:Int))) (fun i3=>
 M.bind (cond ((decide (i3 < (x1.length:Int))))
  (M.bind (M.idx x1 i3) fun x28=>
  M.bind (M.det (ZM x28 target2)) fun v30=>
  M.pure (decide (v30 = 0)))
  (M.pure false)) (fun v26=>
 M.pure (i3,v26)))

def jX (l1:List RN) (n2:Int):M Bool:=
 M.bind (M.det (xu l1)) fun v3=>
 M.bind (M.det (zN v3 n2)) fun v5=>
 M.bind (cond ((decide (v5.1 < (v3.length:Int))))
  (M.bind (M.idx v3 v5.1) fun x9=>
  M.pure (decide (x9.lo <= n2)))
  (M.pure false)) (fun v7=>
 M.pure v7)

def jY (c1:List PT) (dev2:Int):M (List RN):=
 M.bind (M.det (Yl c1)) fun v3=>
 M.bind (M.det (xu (AL.getZ v3 dev2 ([]:List RN)))) fun v6=>
 M.pure v6

def ZN (c1:List PT) (d2:DT):M Bool:=
 M.bind (cond (decide (0 < d2.dev))
  (M.bind (M.det (jY c1 d2.dev)) fun v5=>
  M.bind (M.det (jX v5 d2.n)) fun v7=>
  M.pure v7)
  (M.pure false)) (fun v3=>
 M.pure v3)

def un (l1:List DT) (c2:List PT) (has3:Bool):Int × List DT -> M (M.Step (Int × List DT) (List DT)):=fun ⟨v23,out24⟩=>
 cond ((decide (v23 < (l1.length:Int))))
  (M.bind (M.bind (M.idx l1 v23) fun x27=>
  M.bind (M.det (ZN c2 x27)) fun v29=>
  cond (v29 == has3)
   (M.yW ((out24.length + List.length ([x27])) * 16 <= 140737488355328) <|
   M.pure (out24 ++ [x27]))
   (M.pure out24)) (fun out26=>
  M.pure (.next (((IntKind.i64.wrap (v23 + 1)),out26)))))
  (M.pure (.done out24))
def Uh (l1:List DT) (c2:List PT) (has3:Bool):M (List DT):=
 M.bind (M.loop (un l1 c2 has3) (0,([]:List DT))) (fun out4=>
 M.bind (M.det (WM out4)) fun v33=>
 M.pure v33)

def YP (l1:List DT) (c2:List PT):M (List DT):=
 M.bind (M.det (Uh l1 c2 false)) fun v3=>
 M.pure v3

def uo (l1:List EV):Int × List DT -> M (M.Step (Int × List DT) (List DT)):=fun ⟨v15,out16⟩=>
 cond ((decide (v15 < (l1.length:Int))))
  (M.bind (M.idx l1 v15) fun x18=>
  M.yW ((out16.length + List.length ([x18.dot])) * 16 <= 140737488355328) <|
  M.yW ((List.length (out16 ++ [x18.dot]) + x18.kills.length) * 16 <= 140737488355328) <|
  M.pure (.next (((IntKind.i64.wrap (v15 + 1)),((out16 ++ [x18.dot]) ++ x18.kills)))))
  (M.pure (.done out16))
def vN (l1:List EV):M (List DT):=
 M.bind (M.loop (uo l1) (0,([]:List DT))) (fun out2=>
 M.bind (M.det (WM out2)) fun v22=>
 M.pure v22)

def Zv :List RN × List RN × List RN -> M (M.Step (List RN × List RN × List RN) (List RN)):=fun ⟨a53,b54,out55⟩=>
 M.bind (cond ((decide (0 < (a53.length:Int))))
  (M.pure ((decide (0 < (b54.length:Int)))))
  (M.pure false)) (fun v56=>
 cond v56
  (M.bind (M.idx a53 0) fun x59=>
  M.bind (M.idx b54 0) fun x61=>
  M.bind (M.idx a53 0) fun x63=>
  M.bind (M.idx b54 0) fun x65=>
  M.bind (cond ((decide ((max x59.lo x61.lo) <= (min x63.hi x65.hi))))
   (M.yW ((out55.length + List.length ([(⟨(max x59.lo x61.lo),(min x63.hi x65.hi)⟩:RN)])) * 16 <= 140737488355328) <|
   M.pure ((out55 ++ [(⟨(max x59.lo x61.lo),(min x63.hi x65.hi)⟩:RN)])))
   (M.pure out55)) (fun out67=>
  M.bind (M.idx a53 0) fun x70=>
  M.bind (M.idx b54 0) fun x72=>
  cond (decide (x70.hi < x72.hi))
   (M.yW ((0:Int) <= 1 /\ (1:Int) <= (a53.length:Int) /\ (a53.length:Int) <= (a53.length:Int)) <|
   M.pure (.next (((List.drop (Int.toNat 1) (List.take (Int.toNat (a53.length:Int)) a53)),b54,out67))))
   (M.yW ((0:Int) <= 1 /\ (1:Int) <= (b54.length:Int) /\ (b54.length:Int) <= (b54.length:Int)) <|
   M.pure (.next ((a53,(List.drop (Int.toNat 1) (List.take (Int.toNat (b54.length:Int)) b54)),out67))))))
  (M.pure (.done out55)))
def Vl (a1:List RN) (b2:List RN):M (List RN):=
 M.bind (M.det (xu a1)) fun v3=>
 M.bind (M.det (xu b2)) fun v5=>
 M.bind (M.loop Zv (v3,v5,([]:List RN))) (fun out7=>
 M.pure out7)

def Zw (v2:List RN):Int × Int × List RN -> M (M.Step (Int × Int × List RN) (Int × List RN)):=fun ⟨at17,v18,out19⟩=>
 cond ((decide (v18 < ((v2.length):Int))))
  (M.bind (M.idx v2 v18) fun x21=>
  M.yW ((out19.length + List.length ([(⟨at17,(IntKind.u64.wrap (x21.lo - 1))⟩:RN)])) * 16 <= 140737488355328) <|
  M.pure (.next (((IntKind.u64.wrap (x21.hi + 1)),(IntKind.i64.wrap (v18 + 1)),(out19 ++ [(⟨at17,(IntKind.u64.wrap (x21.lo - 1))⟩:RN)])))))
  (M.pure (.done (at17,out19)))
def Vm (l1:List RN):M (List RN):=
 M.bind (M.det (xu l1)) fun v2=>
 M.bind (M.loop (Zw v2) (1,0,([]:List RN))) (fun ⟨at4,out5⟩=>
 M.yW ((out5.length + List.length ([(⟨at4,281474976710655⟩:RN)])) * 16 <= 140737488355328) <|
 M.pure (out5 ++ [(⟨at4,281474976710655⟩:RN)]))

def YQ (a1:List RN) (b2:List RN):M (List RN):=
 M.bind (M.det (Vm b2)) fun v3=>
 M.bind (M.det (Vl a1 v3)) fun v5=>
 M.pure v5

def vn (v6:List (Int × List RN)):List Nat × (List (Int × List RN)) -> M (M.Step (List Nat × (List (Int × List RN))) (List (Int × List RN))):=fun ⟨seen32,v33⟩=>
 M.yW (∀ i ∈ seen32,i < v33.length)<|M.bind (M.nxt (v33.length) seen32) fun o=>match o with
 | none=>
  M.pure (.done v33)
 | some j34=>
  M.bind (M.idx v33 (Int.ofNat j34)) fun kv38=>
  M.bind (M.det (YQ kv38.2 (AL.getZ v6 kv38.1 ([]:List RN)))) fun v40=>
  M.yW (AL.has v33 kv38.1 = true) <|
  M.pure (.next ((seen32 ++ [j34]),(AL.set v33 kv38.1 v40)))
def vE (a1:List PT) (b2:List PT):M (List PT):=
 M.bind (M.det (Yl a1)) fun v3=>
 M.bind (M.det (Yl b2)) fun v6=>
 M.bind (M.loop (vn v6) ([],v3)) (fun v9=>
 M.bind (M.det (uQ v9)) fun v44=>
 M.pure v44)

def Vn (a1:List PT) (b2:List PT):M (List PT):=
 M.bind (M.det (vE a1 b2)) fun v3=>
 M.pure v3

def WZ (a1:List PT) (b2:List PT):M Bool:=
 M.bind (M.det (Vn a1 b2)) fun v3=>
 M.pure ((decide (((v3.length):Int) = 0)))

def vV (d1:DL):Int -> M (M.Step Int (M.Ex Unit Bool)):=fun v58=>
 cond ((decide (v58 < (d1.events.length:Int))))
  (M.bind (M.idx d1.events v58) fun x60=>
  M.bind (M.bind (M.det (wH x60)) fun v63=>
  cond (!v63)
   (M.pure true)
   (M.bind (M.det (ZN d1.from_ x60.dot)) fun v66=>
   M.pure v66)) (fun v62=>
  cond v62
   (M.pure (.done (.ret false)))
   (M.bind (cond (decide (0 < v58))
    (M.bind (M.idx d1.events (IntKind.i64.wrap (v58 - 1))) fun x71=>
    M.bind (M.det (vR x71.dot x60.dot)) fun v73=>
    M.pure (decide (0 <= v73)))
    (M.pure false)) (fun v69=>
   cond v69
    (M.pure (.done (.ret false)))
    (M.bind (cond (decide (x60.kind = 1))
     (M.bind (M.det (vM d1.events x60.dot)) fun v78=>
     M.pure v78)
     (M.pure false)) (fun v76=>
    cond v76
     (M.pure (.done (.ret false)))
     (M.pure (.next (IntKind.i64.wrap (v58 + 1))))))))))
  (M.pure (.done (.brk ())))
def YR (d1:DL):M Bool:=
 M.bind (M.bind (M.det (uI d1.from_)) fun v3=>
 cond (!v3)
  (M.pure true)
  (M.bind (M.det (uI d1.to_)) fun v6=>
  cond (!v6)
   (M.pure true)
   (M.bind (M.det (WZ d1.from_ d1.to_)) fun v9=>
   cond (!v9)
    (M.pure true)
    (M.pure ((decide (4096 < (d1.events.length:Int)))))))) (fun v2=>
 cond v2
  (M.pure false)
  (M.bind (M.loop (vV d1) 0) (M.exk (fun _=>
  M.bind (M.det (vN d1.events)) fun v81=>
  M.bind (M.det (YP v81 d1.to_)) fun v83=>
  M.pure ((decide ((v83.length:Int) = 0)))))))

def Wa (c1:List PT):Int -> M (M.Step Int (M.Ex Unit Bool)):=fun i12=>
 cond ((decide (i12 < (c1.length:Int))))
  (M.bind (M.idx c1 i12) fun x14=>
  cond ((decide (30 < (x14.runs.length:Int))))
   (M.pure (.done (.ret false)))
   (M.pure (.next (IntKind.i64.wrap (i12 + 1)))))
  (M.pure (.done (.brk ())))
def Ui (c1:List PT):M Bool:=
 cond ((decide (30 < (c1.length:Int))))
  (M.pure false)
  (M.bind (M.loop (Wa c1) 0) (M.exk (fun _=>
  M.pure true)))

def Wb (l1:List EV):Int -> M (M.Step Int (M.Ex Unit Bool)):=fun i21=>
 cond ((decide (i21 < (l1.length:Int))))
  (M.bind (M.bind (M.idx l1 i21) fun x24=>
  cond ((decide (300 < (x24.kills.length:Int))))
   (M.pure true)
   (M.bind (M.idx l1 i21) fun x27=>
   M.pure ((decide (200 < (ByteArray.size x27.text:Int)))))) (fun v23=>
  cond v23
   (M.pure (.done (.ret false)))
   (M.pure (.next (IntKind.i64.wrap (i21 + 1))))))
  (M.pure (.done (.brk ())))
def VF (l1:List EV) (most2:Int):M Bool:=
 cond ((decide (most2 < (l1.length:Int))))
  (M.pure false)
  (M.bind (M.loop (Wb l1) 0) (M.exk (fun _=>
  M.pure true)))

def Qm (d1:DL):M Bool:=
 M.bind (M.bind (M.det (Ui d1.from_)) fun v3=>
 cond v3
  (M.bind (M.det (Ui d1.to_)) fun v6=>
  cond v6
   (M.bind (M.det (VF d1.events 30)) fun v9=>
   M.pure v9)
   (M.pure false))
  (M.pure false)) (fun v2=>
 M.pure v2)

def Wc (l1:List LA):Int -> M (M.Step Int (M.Ex Unit Int)):=fun i29=>
 cond ((decide (i29 < (l1.length:Int))))
  (M.bind (M.bind (M.idx l1 i29) fun x32=>
  M.bind (M.det (VF ([x32.event]) 1)) fun v34=>
  cond (!v34)
   (M.pure true)
   (M.bind (M.idx l1 i29) fun x37=>
   M.bind (M.det (Ui x37.ctx)) fun v39=>
   M.pure (!v39))) (fun v31=>
  cond v31
   (M.pure (.done (.ret 0)))
   (M.pure (.next (IntKind.i64.wrap (i29 + 1))))))
  (M.pure (.done (.brk ())))
def Qn (l1:List LA) (most2:Int):M Int:=
 cond ((decide (most2 < (l1.length:Int))))
  (M.pure 0)
  (M.bind (M.loop (Wc l1) 0) (M.exk (fun _=>
  M.pure 1)))

def Vo (c1:List PT):M Bool:=
 M.bind (M.det (ul c1)) fun v2=>
 M.bind (M.det (qz c1 v2)) fun v4=>
 M.pure v4

def Vp (a1:List PT) (b2:List PT):M (List PT):=
 M.bind (M.det (Ug a1 b2 2)) fun v3=>
 M.pure v3

def We (a1:List PT) (b2:List PT):M Bool:=
 M.bind (M.det (Vp a1 b2)) fun v3=>
 M.pure ((decide (((v3.length):Int) = 0)))

def Zx (d1:DT):M Bool:=
 M.bind (cond (decide (1 <= d1.dev))
  (cond (decide (1 <= d1.n))
   (M.pure (decide (d1.n < 281474976710656)))
   (M.pure false))
  (M.pure false)) (fun v2=>
 M.pure v2)

def Vq (v1:Int):M (Int × Int):=
 M.pure (((IntKind.u16.wrap (IntKind.u64.wrap (Int.tdiv v1 281474976710656))),(Int.tmod v1 281474976710656)))

def Wf (v1:Int):M (DT × Bool):=
 M.bind (M.det (Vq v1)) fun v2=>
 M.bind (M.det (Zx (⟨v2.1,v2.2⟩:DT))) fun v4=>
 cond (!v4)
  (M.pure ((⟨0,0⟩:DT),false))
  (M.pure ((⟨v2.1,v2.2⟩:DT),true))

def jZ (f1:Int):M Bool:=
 M.bind (cond (decide (1 <= f1))
  (M.pure (decide (f1 <= 5)))
  (M.pure false)) (fun v2=>
 M.pure v2)

def ZO (s1:ByteArray):Int -> M (M.Step Int (M.Ex Unit Bool)):=fun i19=>
 cond ((decide (i19 < (ByteArray.size s1:Int))))
  (M.bind (M.bind (M.idx (yF s1) i19) fun b22=>
  cond (decide (b22 < 32))
   (M.pure true)
   (M.bind (M.idx (yF s1) i19) fun b25=>
   M.pure (decide (126 < b25)))) (fun v21=>
  cond v21
   (M.pure (.done (.ret false)))
   (M.pure (.next (IntKind.i64.wrap (i19 + 1))))))
  (M.pure (.done (.brk ())))
def ja (s1:ByteArray):M Bool:=
 M.bind (M.loop (ZO s1) 0) (M.exk (fun _=>
 M.pure ((decide ((ByteArray.size s1:Int) <= 60)))))

def wI (l1:List DT):Int -> M (M.Step Int (M.Ex Unit Bool)):=fun i19=>
 cond ((decide (i19 < (l1.length:Int))))
  (M.bind (M.idx l1 (IntKind.i64.wrap (i19 - 1))) fun x21=>
  M.bind (M.idx l1 i19) fun x23=>
  M.bind (M.det (Yo x21 x23)) fun v25=>
  cond (decide (0 <= v25))
   (M.pure (.done (.ret false)))
   (M.pure (.next (IntKind.i64.wrap (i19 + 1)))))
  (M.pure (.done (.brk ())))
def Wg (l1:List DT):M Bool:=
 M.bind (M.loop (wI l1) 1) (M.exk (fun _=>
 M.pure true))

def Wh (l1:List DT) (d2:DT):Int -> M (M.Step Int (M.Ex Unit Bool)):=fun i12=>
 cond ((decide (i12 < (l1.length:Int))))
  (M.bind (M.idx l1 i12) fun x14=>
  cond (((decide (x14.dev = d2.dev) && decide (x14.n = d2.n))))
   (M.pure (.done (.ret true)))
   (M.pure (.next (IntKind.i64.wrap (i12 + 1)))))
  (M.pure (.done (.brk ())))
def VG (l1:List DT) (d2:DT):M Bool:=
 M.bind (M.loop (Wh l1 d2) 0) (M.exk (fun _=>
 M.pure false))

def ZP (e1:EV):Int -> M (M.Step Int (M.Ex Unit Bool)):=fun i37=>
 cond ((decide (i37 < (e1.kills.length:Int))))
  (M.bind (M.idx e1.kills i37) fun x39=>
  M.bind (M.det (Zx x39)) fun v41=>
  cond (!v41)
   (M.pure (.done (.ret false)))
   (M.pure (.next (IntKind.i64.wrap (i37 + 1)))))
  (M.pure (.done (.brk ())))
def Wi (e1:EV):M Bool:=
 M.bind (M.det (Wf e1.cid)) fun v2=>
 M.bind (cond (!v2.2)
  (M.pure true)
  (M.bind (M.det (Zx e1.dot)) fun v6=>
  cond (!v6)
   (M.pure true)
   (cond (!decide (e1.kind = 1))
    (M.pure (!decide (e1.kind = 2)))
    (M.pure false)))) (fun v4=>
 cond v4
  (M.pure false)
  (M.bind (cond (decide (e1.kind = 1))
   (M.bind (M.det (jZ e1.field)) fun v13=>
   cond (!v13)
    (M.pure true)
    (M.bind (M.det (ja e1.text)) fun v16=>
    cond (!v16)
     (M.pure true)
     (cond (decide (e1.kind = 2))
      (cond (!decide (e1.field = 0))
       (M.pure true)
       (M.pure ((!decide (e1.text = (⟨#[]⟩:ByteArray))))))
      (M.pure false))))
   (cond (decide (e1.kind = 2))
    (cond (!decide (e1.field = 0))
     (M.pure true)
     (M.pure ((!decide (e1.text = (⟨#[]⟩:ByteArray))))))
    (M.pure false))) (fun v11=>
  cond v11
   (M.pure false)
   (M.bind (M.loop (ZP e1) 0) (M.exk (fun _=>
   M.bind (cond ((decide ((e1.kills.length:Int) <= 256)))
    (M.bind (M.det (Wg e1.kills)) fun v46=>
    cond v46
     (M.bind (M.det (VG e1.kills e1.dot)) fun v49=>
     M.pure (!v49))
     (M.pure false))
    (M.pure false)) (fun v44=>
   M.pure v44)))))))

def uc (c1:List PT) (d2:DT):M Bool:=
 M.bind (M.bind (M.det (Zx d2)) fun v4=>
 cond v4
  (M.bind (M.det (WR c1 d2.dev)) fun v7=>
  M.bind (M.det (Ue v7 d2.n)) fun v9=>
  M.pure v9)
  (M.pure false)) (fun v3=>
 M.pure v3)

def Yt (l1:List EV) (d2:DT):Int -> M (M.Step Int (M.Ex Unit Bool)):=fun i16=>
 cond ((decide (i16 < (l1.length:Int))))
  (M.bind (M.idx l1 i16) fun x18=>
  M.bind (M.det (VG x18.kills d2)) fun v20=>
  cond v20
   (M.pure (.done (.ret true)))
   (M.pure (.next (IntKind.i64.wrap (i16 + 1)))))
  (M.pure (.done (.brk ())))
def Vr (l1:List EV) (d2:DT):M Bool:=
 M.bind (M.loop (Yt l1 d2) 0) (M.exk (fun _=>
 M.pure false))

def Yu (l1:List DT) (c2:List PT):List DT × Int -> M (M.Step (List DT × Int) (List DT)):=fun ⟨out28,i29⟩=>
 cond ((decide (i29 < (l1.length:Int))))
  (M.bind (M.bind (M.idx l1 i29) fun x32=>
  M.bind (M.det (uc c2 x32)) fun v34=>
  cond (!v34)
   (M.bind (M.idx l1 i29) fun x37=>
   M.bind (M.det (Yp out28 x37)) fun v39=>
   M.pure v39)
   (M.pure out28)) (fun out31=>
  M.pure (.next ((out31,(IntKind.i64.wrap (i29 + 1)))))))
  (M.pure (.done out28))
def jb (l1:List DT) (c2:List PT):M (List DT):=
 M.bind (M.loop (Yu l1 c2) (([]:List DT),0)) (fun out3=>
 M.pure out3)

def ZQ (l1:List EV) (i80:Int):List DT × Int -> M (M.Step (List DT × Int) (List DT)):=fun ⟨out107,k108⟩=>
 M.bind (M.idx l1 i80) fun x109=>
 cond ((decide (k108 < (x109.kills.length:Int))))
  (M.bind (M.idx l1 i80) fun x112=>
  M.bind (M.idx x112.kills k108) fun x114=>
  M.bind (M.det (Yp out107 x114)) fun v116=>
  M.pure (.next ((v116,(IntKind.i64.wrap (k108 + 1))))))
  (M.pure (.done out107))
def Yv (l1:List EV):List DT × Int -> M (M.Step (List DT × Int) (List DT)):=fun ⟨out79,i80⟩=>
 cond ((decide (i80 < (l1.length:Int))))
  (M.bind (M.bind (M.idx l1 i80) fun x83=>
  M.bind (M.det (Yp out79 x83.dot)) fun v85=>
  M.loop (ZQ l1 i80) (v85,0)) (fun out82=>
  M.pure (.next ((out82,(IntKind.i64.wrap (i80 + 1)))))))
  (M.pure (.done out79))
def Yw (l1:List EV):M (List DT):=
 M.bind (M.loop (Yv l1) (([]:List DT),0)) (fun out2=>
 M.pure out2)

def ZR (d1:DL):Int -> M (M.Step Int (M.Ex Unit Bool)):=fun i66=>
 cond ((decide (i66 < (d1.events.length:Int))))
  (M.bind (M.idx d1.events i66) fun x68=>
  M.bind (M.bind (M.det (Wi x68)) fun v71=>
  cond (!v71)
   (M.pure true)
   (cond (decide (0 < i66))
    (M.bind (M.idx d1.events (IntKind.i64.wrap (i66 - 1))) fun x75=>
    M.bind (M.det (Yo x75.dot x68.dot)) fun v77=>
    cond (decide (0 <= v77))
     (M.pure true)
     (M.bind (M.det (uc d1.from_ x68.dot)) fun v80=>
     cond v80
      (M.pure true)
      (cond (decide (x68.kind = 1))
       (M.bind (M.det (Vr d1.events x68.dot)) fun v84=>
       M.pure v84)
       (M.pure false))))
    (M.bind (M.det (uc d1.from_ x68.dot)) fun v86=>
    cond v86
     (M.pure true)
     (cond (decide (x68.kind = 1))
      (M.bind (M.det (Vr d1.events x68.dot)) fun v90=>
      M.pure v90)
      (M.pure false))))) (fun v70=>
  cond v70
   (M.pure (.done (.ret false)))
   (M.pure (.next (IntKind.i64.wrap (i66 + 1))))))
  (M.pure (.done (.brk ())))
def jc (d1:DL):M Bool:=
 M.bind (M.bind (M.det (Vo d1.from_)) fun v3=>
 cond (!v3)
  (M.pure true)
  (M.bind (M.det (Vo d1.to_)) fun v6=>
  cond (!v6)
   (M.pure true)
   (M.bind (M.det (We d1.from_ d1.to_)) fun v9=>
   cond (!v9)
    (M.pure true)
    (M.pure ((decide (4096 < (d1.events.length:Int)))))))) (fun v2=>
 cond v2
  (M.pure false)
  (M.bind (M.loop (ZR d1) 0) (M.exk (fun _=>
  M.bind (M.det (Yw d1.events)) fun v93=>
  M.bind (M.det (jb v93 d1.to_)) fun v95=>
  M.pure ((decide ((v95.length:Int) = 0)))))))

def Yx (a1:List PT) (b2:List PT):M (List PT):=
 M.bind (M.det (Ug a1 b2 0)) fun v3=>
 M.pure v3

def Vs (l1:List DT):List PT × Int -> M (M.Step (List PT × Int) (List PT)):=fun ⟨out35,i36⟩=>
 cond ((decide (i36 < (l1.length:Int))))
  (M.bind (M.bind (M.idx l1 i36) fun x39=>
  M.bind (M.det (Zx x39)) fun v41=>
  cond v41
   (M.bind (M.idx l1 i36) fun x44=>
   M.bind (M.idx l1 i36) fun x46=>
   M.bind (M.idx l1 i36) fun x48=>
   M.bind (M.det (Yx out35 ([(⟨x44.dev,[(⟨x46.n,x48.n⟩:RN)]⟩:PT)]))) fun v50=>
   M.pure v50)
   (M.pure out35)) (fun out38=>
  M.pure (.next ((out38,(IntKind.i64.wrap (i36 + 1)))))))
  (M.pure (.done out35))
def waa (l1:List DT):M (List PT):=
 M.bind (M.loop (Vs l1) (([]:List PT),0)) (fun out2=>
 M.pure out2)

def YS (l1:List EV) (e2:EV):Bool × Int × List EV -> M (M.Step (Bool × Int × List EV) (M.Ex (Bool × List EV) (List EV))):=fun ⟨done38,i39,out40⟩=>
 cond ((decide (i39 < (l1.length:Int))))
  (M.bind (M.idx l1 i39) fun x42=>
  M.bind (M.det (Yo x42.dot e2.dot)) fun v44=>
  cond (decide (v44 = 0))
   (M.pure (.done (.ret l1)))
   (M.bind (cond (decide (0 < v44))
    (M.pure (!done38))
    (M.pure false)) (fun v47=>
   M.bind (cond v47
    (M.yW ((out40.length + List.length ([e2])) * 80 <= 140737488355328) <|
    M.pure (true,(out40 ++ [e2])))
    (M.pure (done38,out40))) (fun ⟨done49,out50⟩=>
   M.bind (M.idx l1 i39) fun x53=>
   M.yW ((out50.length + List.length ([x53])) * 80 <= 140737488355328) <|
   M.pure (.next ((done49,(IntKind.i64.wrap (i39 + 1)),(out50 ++ [x53]))))))))
  (M.pure (.done (.brk (done38,out40))))
def Qo (l1:List EV) (e2:EV):M (List EV):=
 M.bind (M.loop (YS l1 e2) (false,0,([]:List EV))) (M.exk (fun ⟨done3,out4⟩=>
 M.bind (cond (!done3)
  (M.yW ((out4.length + List.length ([e2])) * 80 <= 140737488355328) <|
  M.pure (out4 ++ [e2]))
  (M.pure out4)) (fun out56=>
 M.pure out56)))

def YT (b1:RB) (e2:EV):Int × List EV -> M (M.Step (Int × List EV) (List EV)):=fun ⟨i40,l41⟩=>
 cond ((decide (i40 < (b1.l.length:Int))))
  (M.bind (M.bind (M.bind (M.idx b1.l i40) fun x45=>
  cond (!decide (x45.kind = 1))
   (M.pure true)
   (M.bind (M.idx b1.l i40) fun x48=>
   M.bind (M.det (VG e2.kills x48.dot)) fun v50=>
   M.pure (!v50))) (fun v44=>
  cond v44
   (M.bind (M.idx b1.l i40) fun x53=>
   M.yW ((l41.length + List.length ([x53])) * 80 <= 140737488355328) <|
   M.pure (l41 ++ [x53]))
   (M.pure l41))) (fun l43=>
  M.pure (.next (((IntKind.i64.wrap (i40 + 1)),l43)))))
  (M.pure (.done l41))
def Yy (b1:RB) (e2:EV):M (RB × Int):=
 M.bind (M.det (Wi e2)) fun v3=>
 cond (!v3)
  (M.pure (b1,1))
  (M.bind (M.det (uc b1.ctx e2.dot)) fun v6=>
  cond v6
   (M.pure (b1,7))
   (M.bind (M.loop (YT b1 e2) (0,([]:List EV))) (fun l9=>
   M.bind (M.det (Yw ([e2]))) fun v56=>
   M.bind (M.det (waa v56)) fun v58=>
   M.bind (M.det (Yx b1.ctx v58)) fun v60=>
   M.bind (M.det (Qo l9 e2)) fun v62=>
   M.pure ((⟨v60,v62⟩:RB),0))))

def Yz (l1:List EV) (k2:Int):Int × List EV -> M (M.Step (Int × List EV) (List EV)):=fun ⟨i22,out23⟩=>
 cond ((decide (i22 < (l1.length:Int))))
  (M.bind (M.bind (M.idx l1 i22) fun x26=>
  cond (decide (x26.kind = k2))
   (M.bind (M.idx l1 i22) fun x29=>
   M.yW ((out23.length + List.length ([x29])) * 80 <= 140737488355328) <|
   M.pure (out23 ++ [x29]))
   (M.pure out23)) (fun out25=>
  M.pure (.next (((IntKind.i64.wrap (i22 + 1)),out25)))))
  (M.pure (.done out23))
def jd (l1:List EV) (k2:Int):M (List EV):=
 M.bind (M.loop (Yz l1 k2) (0,([]:List EV))) (fun out3=>
 M.pure out3)

def Vt (b1:RB):M (List EV):=
 M.bind (M.det (jd b1.l 1)) fun v2=>
 M.pure v2

def up (l1:List EV) (cid2:Int):Int × List EV -> M (M.Step (Int × List EV) (List EV)):=fun ⟨i30,some31⟩=>
 cond ((decide (i30 < (l1.length:Int))))
  (M.bind (M.bind (M.bind (M.idx l1 i30) fun x35=>
  cond (decide (x35.kind = 1))
   (M.bind (M.idx l1 i30) fun x38=>
   M.pure (decide (x38.cid = cid2)))
   (M.pure false)) (fun v34=>
  cond v34
   (M.bind (M.idx l1 i30) fun x41=>
   M.yW ((some31.length + List.length ([x41])) * 80 <= 140737488355328) <|
   M.pure (some31 ++ [x41]))
   (M.pure some31))) (fun some33=>
  M.pure (.next (((IntKind.i64.wrap (i30 + 1)),some33)))))
  (M.pure (.done some31))
def Wj (l1:List EV) (cid2:Int):M (List DT):=
 M.bind (M.loop (up l1 cid2) (0,([]:List EV))) (fun some3=>
 M.bind (M.det (Yw some3)) fun v44=>
 M.pure v44)

def XA (l1:List EV) (cid2:Int) (f3:Int):Int × List EV -> M (M.Step (Int × List EV) (List EV)):=fun ⟨i37,some38⟩=>
 cond ((decide (i37 < (l1.length:Int))))
  (M.bind (M.bind (M.bind (M.idx l1 i37) fun x42=>
  cond (decide (x42.kind = 1))
   (M.bind (M.idx l1 i37) fun x45=>
   cond (decide (x45.cid = cid2))
    (M.bind (M.idx l1 i37) fun x48=>
    M.pure (decide (x48.field = f3)))
    (M.pure false))
   (M.pure false)) (fun v41=>
  cond v41
   (M.bind (M.idx l1 i37) fun x51=>
   M.yW ((some38.length + List.length ([x51])) * 80 <= 140737488355328) <|
   M.pure (some38 ++ [x51]))
   (M.pure some38))) (fun some40=>
  M.pure (.next (((IntKind.i64.wrap (i37 + 1)),some40)))))
  (M.pure (.done some38))
def je (l1:List EV) (cid2:Int) (f3:Int):M (List DT):=
 M.bind (M.loop (XA l1 cid2 f3) (0,([]:List EV))) (fun some4=>
 M.bind (M.det (Yw some4)) fun v54=>
 M.pure v54)

def jf (b1:RB) (e2:EV):M (EV × Int):=
 M.bind (M.det (Wi (⟨e2.dot,e2.kind,e2.cid,e2.field,e2.text,([]:List DT)⟩:EV))) fun v3=>
 cond (!v3)
  (M.pure (((⟨(⟨0,0⟩:DT),0,0,0,(⟨#[]⟩:ByteArray),([]:List DT)⟩:EV),1)))
  (M.bind (M.det (uc b1.ctx e2.dot)) fun v6=>
  cond v6
   (M.pure (((⟨(⟨0,0⟩:DT),0,0,0,(⟨#[]⟩:ByteArray),([]:List DT)⟩:EV),7)))
   (M.bind (M.det (Vt b1)) fun v9=>
   M.bind (M.det (Wj v9 e2.cid)) fun v11=>
   M.bind (cond (decide (e2.kind = 1))
    (M.bind (M.det (Vt b1)) fun v15=>
    M.bind (M.det (je v15 e2.cid e2.field)) fun v17=>
    M.pure v17)
    (M.pure v11)) (fun e13=>
   cond ((decide (256 < (e13.length:Int))))
    (M.pure (((⟨(⟨0,0⟩:DT),0,0,0,(⟨#[]⟩:ByteArray),([]:List DT)⟩:EV),3)))
    (M.pure ((⟨e2.dot,e2.kind,e2.cid,e2.field,e2.text,e13⟩:EV),0)))))

def Qp (b1:RB) (c2:List PT):M RB:=
 M.bind (M.det (Yx b1.ctx c2)) fun v3=>
 M.pure (⟨v3,b1.l⟩:RB)

def Vu (e1:EV) (c2:List PT):M EV:=
 M.bind (M.det (uc c2 e1.dot)) fun v3=>
 M.bind (cond v3
  (M.pure ([]:List DT))
  (M.pure e1.kills)) (fun e5=>
 M.pure (⟨e1.dot,e1.kind,e1.cid,e1.field,e1.text,e5⟩:EV))

def uR (b1:RB) (c2:List PT):Int × List EV -> M (M.Step (Int × List EV) (List EV)):=fun ⟨i38,l39⟩=>
 cond ((decide (i38 < (b1.l.length:Int))))
  (M.bind (M.bind (M.bind (M.idx b1.l i38) fun x43=>
  cond (decide (x43.kind = 1))
   (M.pure true)
   (M.bind (M.idx b1.l i38) fun x46=>
   M.bind (M.det (uc c2 x46.dot)) fun v48=>
   M.pure (!v48))) (fun v42=>
  cond v42
   (M.bind (M.idx b1.l i38) fun x51=>
   M.bind (M.det (Vu x51 c2)) fun v53=>
   M.yW ((l39.length + List.length ([v53])) * 80 <= 140737488355328) <|
   M.pure (l39 ++ [v53]))
   (M.pure l39))) (fun l41=>
  M.pure (.next (((IntKind.i64.wrap (i38 + 1)),l41)))))
  (M.pure (.done l39))
def Vv (b1:RB) (c2:List PT):M (RB × Int):=
 M.bind (M.loop (uR b1 c2) (0,([]:List EV))) (fun l3=>
 M.pure (((⟨b1.ctx,l3⟩:RB),(IntKind.i64.wrap ((b1.l.length:Int) - (l3.length:Int))))))

def Xr (l1:List LA):Int × List PT × List EV -> M (M.Step (Int × List PT × List EV) (List PT × List EV)):=fun ⟨i45,x46,x47⟩=>
 cond ((decide (i45 < (l1.length:Int))))
  (M.bind (M.bind (M.idx l1 i45) fun x51=>
  cond (decide (x51.kind = 0))
   (M.bind (M.det (Yy (⟨x46,x47⟩:RB) x51.event)) fun v54=>
   M.pure (v54.1.ctx,v54.1.l))
   (cond (decide (x51.kind = 1))
    (M.bind (M.det (jf (⟨x46,x47⟩:RB) x51.event)) fun v57=>
    M.bind (M.det (Yy (⟨x46,x47⟩:RB) v57.1)) fun v59=>
    M.pure (v59.1.ctx,v59.1.l))
    (cond (decide (x51.kind = 2))
     (M.bind (M.det (Qp (⟨x46,x47⟩:RB) x51.ctx)) fun v62=>
     M.pure (v62.ctx,v62.l))
     (cond (decide (x51.kind = 3))
      (M.bind (M.det (Vv (⟨x46,x47⟩:RB) x51.ctx)) fun v65=>
      M.pure (v65.1.ctx,v65.1.l))
      (M.pure (x46,x47)))))) (fun ⟨x49,x50⟩=>
  M.pure (.next (((IntKind.i64.wrap (i45 + 1)),x49,x50)))))
  (M.pure (.done (x46,x47)))
def wba (l1:List LA):M RB:=
 M.bind (M.loop (Xr l1) (0,([]:List PT),([]:List EV))) (fun ⟨x2,x3⟩=>
 M.pure (⟨x2,x3⟩:RB))

def jg (a1:List PT) (b2:List PT):M Bool:=
 M.bind (M.det (uH a1)) fun v3=>
 M.bind (M.det (uH b2)) fun v5=>
 M.bind (M.det (yLa v3 v5)) fun v7=>
 M.pure v7

def Zl (s1_1:List DT) (s2_2:List DT):Int -> M (M.Step Int (M.Ex Unit Bool)):=fun v17=>
 cond ((decide (v17 < (s1_1.length:Int))))
  (M.bind (M.idx s1_1 v17) fun x19=>
  M.bind (M.idx s2_2 v17) fun x21=>
  cond ((!(decide (x19.dev = x21.dev) && decide (x19.n = x21.n))))
   (M.pure (.done (.ret false)))
   (M.pure (.next (IntKind.i64.wrap (v17 + 1)))))
  (M.pure (.done (.brk ())))
def ya (s1_1:List DT) (s2_2:List DT):M Bool:=
 cond ((!decide ((s1_1.length:Int) = (s2_2.length:Int))))
  (M.pure false)
  (M.bind (M.loop (Zl s1_1 s2_2) 0) (M.exk (fun _=>
  M.pure true)))

def jh (a1:List DT) (b2:List DT):M Bool:=
 M.bind (M.det (ya a1 b2)) fun v3=>
 M.pure v3

def Wk (a1:EV) (b2:EV):M Bool:=
 M.bind (cond (((decide (a1.dot.dev = b2.dot.dev) && decide (a1.dot.n = b2.dot.n))))
  (cond (decide (a1.kind = b2.kind))
   (cond (decide (a1.cid = b2.cid))
    (cond (decide (a1.field = b2.field))
     (cond (decide (a1.text = b2.text))
      (M.bind (M.det (jh a1.kills b2.kills)) fun v9=>
      M.pure v9)
      (M.pure false))
     (M.pure false))
    (M.pure false))
   (M.pure false))
  (M.pure false)) (fun v3=>
 M.pure v3)

def zJ (s1_1:List EV) (s2_2:List EV):Int -> M (M.Step Int (M.Ex Unit Bool)):=fun v21=>
 cond ((decide (v21 < (s1_1.length:Int))))
  (M.bind (M.idx s1_1 v21) fun x23=>
  M.bind (M.idx s2_2 v21) fun x25=>
  M.bind (M.det (Wk x23 x25)) fun v27=>
  cond (!v27)
   (M.pure (.done (.ret false)))
   (M.pure (.next (IntKind.i64.wrap (v21 + 1)))))
  (M.pure (.done (.brk ())))
def zT (s1_1:List EV) (s2_2:List EV):M Bool:=
 cond ((!decide ((s1_1.length:Int) = (s2_2.length:Int))))
  (M.pure false)
  (M.bind (M.loop (zJ s1_1 s2_2) 0) (M.exk (fun _=>
  M.pure true)))

def Vw (a1:List EV) (b2:List EV):M Bool:=
 M.bind (M.det (zT a1 b2)) fun v3=>
 M.pure v3

def vv (e1:EV) (nl2:Bool) (m3:List (DT × EV)):M (Bool × (List (DT × EV))):=
 M.bind (cond nl2
  (M.pure ([]:List (DT × EV)))
  (M.pure m3)) (fun v4=>
 M.bind (M.det (yk e1)) fun v9=>
 M.pure (false,(AL.set v4 e1.dot v9)))

def yD (l2:List EV):Int × Bool × (List (DT × EV)) × Bool × (List (DT × EV)) -> M (M.Step (Int × Bool × (List (DT × EV)) × Bool × (List (DT × EV))) (M.Ex (Bool × (List (DT × EV)) × Bool × (List (DT × EV))) (Unit ⊕ (List PT × Bool × (List (DT × EV)) × Bool × (List (DT × EV)))))):=fun ⟨v72,nl73,v74,nl75,v76⟩=>
 cond ((decide (v72 < (l2.length:Int))))
  (M.bind (M.bind (M.idx l2 v72) fun x82=>
  M.bind (M.bind (M.det (wH x82)) fun v85=>
  cond (!v85)
   (M.pure true)
   (cond (decide (0 < v72))
    (M.bind (M.idx l2 (IntKind.i64.wrap (v72 - 1))) fun x89=>
    M.bind (M.det (vR x89.dot x82.dot)) fun v91=>
    cond (decide (0 <= v91))
     (M.pure true)
     (cond (decide (x82.kind = 1))
      (M.bind (M.det (vM l2 x82.dot)) fun v95=>
      M.pure v95)
      (M.pure false)))
    (cond (decide (x82.kind = 1))
     (M.bind (M.det (vM l2 x82.dot)) fun v98=>
     M.pure v98)
     (M.pure false)))) (fun v84=>
  cond v84
   (M.pure (.ret ((.done ((.ret (.inl ())))))))
   (cond (decide (x82.kind = 1))
    (M.bind (M.det (vv x82 nl75 v76)) fun y102=>
    M.pure (.brk (nl73,v74,y102.1,y102.2)))
    (M.bind (M.det (vv x82 nl73 v74)) fun y104=>
    M.pure (.brk (y104.1,y104.2,nl75,v76)))))) (M.exk (fun ⟨nl78,v79,nl80,v81⟩=>
  M.pure (.next (((IntKind.i64.wrap (v72 + 1)),nl78,v79,nl80,v81))))))
  (M.pure (.done (.brk (nl73,v74,nl75,v76))))
def xW (c1:List PT) (l2:List EV):M (Unit ⊕ (List PT × Bool × (List (DT × EV)) × Bool × (List (DT × EV)))):=
 M.bind (M.det (uH c1)) fun v3=>
 M.bind (M.loop (yD l2) ((0,true,([]:List (DT × EV)),true,([]:List (DT × EV))))) (M.exk (fun ⟨nl5,v6,nl7,v8⟩=>
 M.bind (M.bind (M.det (uI c1)) fun v107=>
 cond (!v107)
  (M.pure true)
  (M.bind (M.det (vN l2)) fun v110=>
  M.bind (M.det (YP v110 c1)) fun v112=>
  M.pure ((decide (0 < ((v112.length):Int)))))) (fun v106=>
 cond v106
  (M.pure (.inl ()))
  (M.pure (.inr (v3,nl7,v8,nl5,v6))))))

def YU (b1:List Int):M (List Int × Int):=
 M.yW (b1.length * 1 <= 140737488355328) <|
 M.pure (b1,0)

def zM (b_1:List Int) (bad_2:Int):M (Int × List Int × Int):=
 M.pure (bad_2,b_1,bad_2)

def zI (e1:Int) (b_2:List Int) (bad_3:Int):M (List Int × Int):=
 M.bind (cond (decide (bad_3 = 0))
  (M.pure (!decide (e1 = 0)))
  (M.pure false)) (fun v4=>
 cond v4
  (M.pure (([]:List Int),e1))
  (M.pure (b_2,bad_3)))

def yl (n1:Int) (b_2:List Int) (bad_3:Int):M (List Int × List Int × Int):=
 M.yW ((0:Int) <= 0 /\ (0:Int) <= n1 /\ n1 <= (b_2.length:Int)) <|
 M.yW ((0:Int) <= n1 /\ (n1:Int) <= (b_2.length:Int) /\ (b_2.length:Int) <= (b_2.length:Int)) <|
 M.pure (((List.drop (Int.toNat 0) (List.take (Int.toNat n1) b_2)),(List.drop (Int.toNat n1) (List.take (Int.toNat (b_2.length:Int)) b_2)),bad_3))

def zW (b_1:List Int) (bad_2:Int):M (Int × List Int × Int):=
 M.bind (M.det (zM b_1 bad_2)) fun y3=>
 cond (!decide (y3.1 = 0))
  (M.pure (0,y3.2.1,y3.2.2))
  (M.bind (M.det (jW y3.2.1 0)) fun v6=>
  cond (!decide (v6.2.2 = 0))
   (M.bind (M.det (zI v6.2.2 y3.2.1 y3.2.2)) fun y9=>
   M.pure (0,y9.1,y9.2))
   (M.bind (M.det (yl v6.2.1 y3.2.1 y3.2.2)) fun y11=>
   M.pure (v6.1,y11.2.1,y11.2.2)))

def yr (most1:Int) (b_2:List Int) (bad_3:Int):M (Int × List Int × Int):=
 M.bind (M.det (zW b_2 bad_3)) fun y4=>
 cond (decide (most1 < y4.1))
  (M.bind (M.det (zI 4 y4.2.1 y4.2.2)) fun y7=>
  M.pure (0,y7.1,y7.2))
  (M.pure (y4.1,y4.2.1,y4.2.2))

def xL (y5:Int × List Int × Int):Int × List RN × List Int × Int -> M (M.Step (Int × List RN × List Int × Int) (List RN × List Int × Int)):=fun ⟨v32,v33,v34,v35⟩=>
 cond (decide (v32 < y5.1))
  (M.bind (M.det (zW v34 v35)) fun y37=>
  M.bind (M.det (zW y37.2.1 y37.2.2)) fun y39=>
  M.yW ((v33.length + List.length ([(⟨y37.1,y39.1⟩:RN)])) * 16 <= 140737488355328) <|
  M.bind (M.det (zM y39.2.1 y39.2.2)) fun y42=>
  cond (!decide (y42.1 = 0))
   (M.pure (.done ((((v33 ++ [(⟨y37.1,y39.1⟩:RN)]),y42.2.1,y42.2.2)))))
   (M.pure (.next (((IntKind.u64.wrap (v32 + 1)),(v33 ++ [(⟨y37.1,y39.1⟩:RN)]),y42.2.1,y42.2.2)))))
  (M.pure (.done (v33,v34,v35)))
def Zy (b_1:List Int) (bad_2:Int):M (PT × List Int × Int):=
 M.bind (M.det (yr 65535 b_1 bad_2)) fun y3=>
 M.bind (M.det (zW y3.2.1 y3.2.2)) fun y5=>
 M.bind (M.loop (xL y5) (0,([]:List RN),y5.2.1,y5.2.2)) (fun ⟨v7,v8,v9⟩=>
 M.pure (((⟨(IntKind.u16.wrap y3.1),v7⟩:PT),v8,v9)))

def xe (y3:Int × List Int × Int):Int × List PT × List Int × Int -> M (M.Step (Int × List PT × List Int × Int) (M.Ex (List PT × List Int × Int) (List PT × List Int × Int))):=fun ⟨v26,c27,v28,v29⟩=>
 cond (decide (v26 < y3.1))
  (M.bind (M.det (Zy v28 v29)) fun y31=>
  M.yW ((c27.length + List.length ([y31.1])) * 32 <= 140737488355328) <|
  M.bind (M.det (zM y31.2.1 y31.2.2)) fun y34=>
  cond (!decide (y34.1 = 0))
   (M.pure (.done ((.ret (([]:List PT),y34.2.1,y34.2.2)))))
   (M.pure (.next (((IntKind.u64.wrap (v26 + 1)),(c27 ++ [y31.1]),y34.2.1,y34.2.2)))))
  (M.pure (.done (.brk (c27,v28,v29))))
def vF (b_1:List Int) (bad_2:Int):M (List PT × List Int × Int):=
 M.bind (M.det (zW b_1 bad_2)) fun y3=>
 M.bind (M.loop (xe y3) (0,([]:List PT),y3.2.1,y3.2.2)) (M.exk (fun ⟨c5,v6,v7⟩=>
 M.bind (M.det (uI c5)) fun v37=>
 cond (!v37)
  (M.bind (M.det (zI 4 v6 v7)) fun y40=>
  M.pure (([]:List PT),y40.1,y40.2))
  (M.pure (c5,v6,v7))))

def vw (b_1:List Int) (bad_2:Int):M (DT × List Int × Int):=
 M.bind (M.det (yr 65535 b_1 bad_2)) fun y3=>
 M.bind (M.det (zW y3.2.1 y3.2.2)) fun y5=>
 M.bind (M.det (Zt (⟨(IntKind.u16.wrap y3.1),y5.1⟩:DT))) fun v7=>
 M.bind (cond (!v7)
  (M.bind (M.det (zI 4 y5.2.1 y5.2.2)) fun y12=>
  M.pure (y12.1,y12.2))
  (M.pure (y5.2.1,y5.2.2))) (fun ⟨v9,v10⟩=>
 M.bind (M.det (zM v9 v10)) fun y14=>
 cond (!decide (y14.1 = 0))
  (M.pure ((⟨0,0⟩:DT),y14.2.1,y14.2.2))
  (M.pure (((⟨(IntKind.u16.wrap y3.1),y5.1⟩:DT),y14.2.1,y14.2.2))))

def ud (b_1:List Int) (bad_2:Int):M (Int × List Int × Int):=
 M.pure ((b_1.length:Int),b_1,bad_2)

def yB (b_1:List Int) (bad_2:Int):M (Int × List Int × Int):=
 M.bind (M.det (ud b_1 bad_2)) fun y3=>
 M.pure (y3.1,y3.2.1,y3.2.2)

def yI (b_1:List Int) (bad_2:Int):M (Int × List Int × Int):=
 M.bind (M.det (zM b_1 bad_2)) fun y3=>
 cond (!decide (y3.1 = 0))
  (M.pure (0,y3.2.1,y3.2.2))
  (M.bind (M.det (yB y3.2.1 y3.2.2)) fun y6=>
  cond (decide (y6.1 = 0))
   (M.bind (M.det (zI 2 y6.2.1 y6.2.2)) fun y9=>
   M.pure (0,y9.1,y9.2))
   (M.bind (M.det (yl 1 y6.2.1 y6.2.2)) fun y11=>
   M.bind (M.idx y11.1 0) fun x13=>
   M.pure (x13,y11.2.1,y11.2.2)))

def yt (most1:Int) (b_2:List Int) (bad_3:Int):M (ByteArray × List Int × Int):=
 M.bind (M.det (zW b_2 bad_3)) fun y4=>
 M.bind (M.det (zM y4.2.1 y4.2.2)) fun y6=>
 cond (!decide (y6.1 = 0))
  (M.pure ((⟨#[]⟩:ByteArray),y6.2.1,y6.2.2))
  (cond ((decide ((IntKind.u64.wrap (max most1 0)) < y4.1)))
   (M.bind (M.det (zI 3 y6.2.1 y6.2.2)) fun y10=>
   M.pure ((⟨#[]⟩:ByteArray),y10.1,y10.2))
   (M.bind (M.det (yB y6.2.1 y6.2.2)) fun y12=>
   cond ((decide ((IntKind.u64.wrap y12.1) < y4.1)))
    (M.bind (M.det (zI 2 y12.2.1 y12.2.2)) fun y15=>
    M.pure ((⟨#[]⟩:ByteArray),y15.1,y15.2))
    (M.bind (M.det (yl (IntKind.i64.wrap y4.1) y12.2.1 y12.2.2)) fun y17=>
    M.pure ((Qh y17.1),y17.2.1,y17.2.2))))

def xM (y4:Int × List Int × Int):Int × List DT × List Int × Int -> M (M.Step (Int × List DT × List Int × Int) (M.Ex (List DT × List Int × Int) (List DT × List Int × Int))):=fun ⟨v52,out53,v54,v55⟩=>
 cond (decide (v52 < y4.1))
  (M.bind (M.det (vw v54 v55)) fun y57=>
  M.bind (cond ((decide (0 <= ((IntKind.i64.wrap (((out53.length):Int) - 1))))))
   (M.bind (M.idx out53 ((IntKind.i64.wrap (((out53.length):Int) - 1)))) fun x61=>
   M.bind (M.det (vR x61 y57.1)) fun v63=>
   M.pure (decide (0 <= v63)))
   (M.pure false)) (fun v59=>
  M.bind (cond v59
   (M.bind (M.det (zI 4 y57.2.1 y57.2.2)) fun y68=>
   M.pure (y68.1,y68.2))
   (M.pure (y57.2.1,y57.2.2))) (fun ⟨v65,v66⟩=>
  M.bind (M.det (zM v65 v66)) fun y70=>
  cond (!decide (y70.1 = 0))
   (M.pure (.done ((.ret (([]:List DT),y70.2.1,y70.2.2)))))
   (M.yW ((out53.length + List.length ([y57.1])) * 16 <= 140737488355328) <|
   M.pure (.next (((IntKind.u64.wrap (v52 + 1)),(out53 ++ [y57.1]),y70.2.1,y70.2.2)))))))
  (M.pure (.done (.brk (out53,v54,v55))))
def uS (most1:Int) (b_2:List Int) (bad_3:Int):M (List DT × List Int × Int):=
 M.bind (M.det (zW b_2 bad_3)) fun y4=>
 cond ((decide ((IntKind.u64.wrap (max most1 0)) < y4.1)))
  (M.bind (M.det (zI 3 y4.2.1 y4.2.2)) fun y7=>
  M.pure (([]:List DT),y7.1,y7.2))
  (M.bind (M.loop (xM y4) (0,([]:List DT),y4.2.1,y4.2.2)) (M.exk (fun ⟨out9,v10,v11⟩=>
  M.pure (out9,v10,v11))))

def XB (b_1:List Int) (bad_2:Int):M (EV × List Int × Int):=
 M.bind (M.det (vw b_1 bad_2)) fun y3=>
 M.bind (M.det (yI y3.2.1 y3.2.2)) fun y5=>
 M.bind (M.det (zW y5.2.1 y5.2.2)) fun y7=>
 M.bind (M.det (yI y7.2.1 y7.2.2)) fun y9=>
 M.bind (M.det (yt 60 y9.2.1 y9.2.2)) fun y11=>
 M.bind (M.det (uS 256 y11.2.1 y11.2.2)) fun y13=>
 M.bind (M.det (wH (⟨y3.1,y5.1,y7.1,y9.1,y11.1,y13.1⟩:EV))) fun v15=>
 M.bind (cond (!v15)
  (M.bind (M.det (zI 4 y13.2.1 y13.2.2)) fun y20=>
  M.pure (y20.1,y20.2))
  (M.pure (y13.2.1,y13.2.2))) (fun ⟨v17,v18⟩=>
 M.bind (M.det (zM v17 v18)) fun y22=>
 cond (!decide (y22.1 = 0))
  (M.pure (((⟨(⟨0,0⟩:DT),0,0,0,(⟨#[]⟩:ByteArray),([]:List DT)⟩:EV),y22.2.1,y22.2.2)))
  (M.pure ((⟨y3.1,y5.1,y7.1,y9.1,y11.1,y13.1⟩:EV),y22.2.1,y22.2.2)))

def ye (y4:Int × List Int × Int):Int × List EV × List Int × Int -> M (M.Step (Int × List EV × List Int × Int) (M.Ex (List EV × List Int × Int) (List EV × List Int × Int))):=fun ⟨v52,out53,v54,v55⟩=>
 cond (decide (v52 < y4.1))
  (M.bind (M.det (XB v54 v55)) fun y57=>
  M.bind (cond ((decide (0 <= ((IntKind.i64.wrap (((out53.length):Int) - 1))))))
   (M.bind (M.idx out53 ((IntKind.i64.wrap (((out53.length):Int) - 1)))) fun x61=>
   M.bind (M.det (vR x61.dot y57.1.dot)) fun v63=>
   M.pure (decide (0 <= v63)))
   (M.pure false)) (fun v59=>
  M.bind (cond v59
   (M.bind (M.det (zI 4 y57.2.1 y57.2.2)) fun y68=>
   M.pure (y68.1,y68.2))
   (M.pure (y57.2.1,y57.2.2))) (fun ⟨v65,v66⟩=>
  M.bind (M.det (zM v65 v66)) fun y70=>
  cond (!decide (y70.1 = 0))
   (M.pure (.done ((.ret (([]:List EV),y70.2.1,y70.2.2)))))
   (M.yW ((out53.length + List.length ([y57.1])) * 80 <= 140737488355328) <|
   M.pure (.next (((IntKind.u64.wrap (v52 + 1)),(out53 ++ [y57.1]),y70.2.1,y70.2.2)))))))
  (M.pure (.done (.brk (out53,v54,v55))))
def xf (most1:Int) (b_2:List Int) (bad_3:Int):M (List EV × List Int × Int):=
 M.bind (M.det (zW b_2 bad_3)) fun y4=>
 cond ((decide ((IntKind.u64.wrap (max most1 0)) < y4.1)))
  (M.bind (M.det (zI 3 y4.2.1 y4.2.2)) fun y7=>
  M.pure (([]:List EV),y7.1,y7.2))
  (M.bind (M.loop (ye y4) (0,([]:List EV),y4.2.1,y4.2.2)) (M.exk (fun ⟨out9,v10,v11⟩=>
  M.pure (out9,v10,v11))))

def xP (b_1:List Int) (bad_2:Int):M (Int × List Int × Int):=
 M.bind (M.det (yB b_1 bad_2)) fun y3=>
 M.bind (cond (decide (0 < y3.1))
  (M.bind (M.det (zI 4 y3.2.1 y3.2.2)) fun y8=>
  M.pure (y8.1,y8.2))
  (M.pure (y3.2.1,y3.2.2))) (fun ⟨v5,v6⟩=>
 M.bind (M.det (zM v5 v6)) fun y10=>
 M.pure (y10.1,y10.2.1,y10.2.2))

def uJ (b1:List Int):M (Int ⊕ (Int × List PT × Bool × (List (DT × EV)) × Bool × (List (DT × EV)))):=
 M.bind (M.det (YU b1)) fun y2=>
 M.bind (M.det (vF y2.1 y2.2)) fun y4=>
 M.bind (M.det (xf 4096 y4.2.1 y4.2.2)) fun y6=>
 M.bind (M.det (xP y6.2.1 y6.2.2)) fun y8=>
 cond (!decide (y8.1 = 0))
  (M.pure (.inl y8.1))
  (M.bind (M.det (xW y4.1 y6.1)) fun y11=>
  M.sum y11 (fun z13=>
   M.pure (.inl 4)) (fun z14=>
   M.pure (.inr (0,z14.1,z14.2.1,z14.2.2.1,z14.2.2.2.1,z14.2.2.2.2))))

def wx (d1:DL) (row2:List Int):M (List Int):=
 M.bind (M.det (yz d1.from_ row2)) fun y3=>
 M.bind (M.det (yz d1.to_ y3)) fun y5=>
 M.bind (M.det (xb d1.events y5)) fun y7=>
 M.pure y7

def ZS (ctx_1:List PT) (ctx_2:List PT) (nl3:Bool) (m4:List (DT × EV)) (nl5:Bool) (m6:List (DT × EV)) (nl7:Bool) (m8:List (DT × EV)) (nl9:Bool) (m10:List (DT × EV)):M Bool:=
 M.bind (M.bind (M.det (xJ ctx_1 nl3 m4 nl5 m6)) fun y12=>
 M.bind (M.det (xJ ctx_2 nl7 m8 nl9 m10)) fun y14=>
 M.bind (M.det (jg y12 y14)) fun v16=>
 cond v16
  (M.bind (M.det (xK ctx_1 nl3 m4 nl5 m6)) fun y19=>
  M.bind (M.det (xK ctx_2 nl7 m8 nl9 m10)) fun y21=>
  M.bind (M.det (Vw y19 y21)) fun v23=>
  M.pure v23)
  (M.pure false)) (fun v11=>
 M.pure v11)

def vW (b_1:List Int) (bad_2:Int):M (DL × List Int × Int):=
 M.bind (M.det (vF b_1 bad_2)) fun y3=>
 M.bind (M.det (vF y3.2.1 y3.2.2)) fun y5=>
 M.bind (M.det (xf 4096 y5.2.1 y5.2.2)) fun y7=>
 M.bind (M.det (YR (⟨y3.1,y5.1,y7.1⟩:DL))) fun v9=>
 M.bind (cond (!v9)
  (M.bind (M.det (zI 4 y7.2.1 y7.2.2)) fun y14=>
  M.pure (y14.1,y14.2))
  (M.pure (y7.2.1,y7.2.2))) (fun ⟨v11,v12⟩=>
 M.bind (M.det (zM v11 v12)) fun y16=>
 cond (!decide (y16.1 = 0))
  (M.pure (((⟨([]:List PT),([]:List PT),([]:List EV)⟩:DL),y16.2.1,y16.2.2)))
  (M.pure ((⟨y3.1,y5.1,y7.1⟩:DL),y16.2.1,y16.2.2)))

def uq (d1:DL) (l2:List LA) (rest3:List Int):M Bool:=
 M.bind (M.bind (M.det (Qm d1)) fun v5=>
 cond (!v5)
  (M.pure true)
  (M.bind (M.det (Qn l2 20)) fun v8=>
  cond (decide (v8 = 0))
   (M.pure true)
   (M.bind (M.det (jc d1)) fun v11=>
   M.pure (!v11)))) (fun v4=>
 cond v4
  (M.bind (M.det (Xq)) fun v14=>
  M.pure v14)
  (M.bind (M.det (wba l2)) fun v16=>
  M.bind (M.det (ul v16.ctx)) fun v18=>
  M.bind (M.det (xW v18 v16.l)) fun y20=>
  M.sum y20 (fun z22=>
   M.fail) (fun z23=>
   M.bind (M.det (xd z23.1 z23.2.1 z23.2.2.1 z23.2.2.2.1 z23.2.2.2.2)) fun y24=>
   M.bind (M.det (uJ y24)) fun y26=>
   M.sum y26 (fun z28=>
    M.fail) (fun z29=>
    M.bind (M.det (wx d1 ([]:List Int))) fun y30=>
    M.bind (M.det (zr y30)) fun y32=>
    M.yW ((y32.2.length + rest3.length) * 1 <= 140737488355328) <|
    M.bind (M.det (YU (y32.2 ++ rest3))) fun y35=>
    M.bind (cond (decide (z29.1 = 0))
     (M.bind (M.det (ZS z23.1 z29.2.1 z23.2.1 z23.2.2.1 z23.2.2.2.1 z23.2.2.2.2 z29.2.2.1 z29.2.2.2.1 z29.2.2.2.2.1 z29.2.2.2.2.2)) fun y39=>
     cond y39
      (M.bind (M.det (vW y35.1 y35.2)) fun y42=>
      M.bind (M.det (jV y42.1 d1)) fun v44=>
      cond v44
       (M.bind (M.det (zM y42.2.1 y42.2.2)) fun y47=>
       cond (decide (y47.1 = 0))
        (M.bind (M.det (yB y47.2.1 y47.2.2)) fun y50=>
        cond ((decide (y50.1 = (rest3.length:Int))))
         (M.bind (M.det (Xq)) fun v53=>
         M.pure v53)
         (M.pure false))
        (M.pure false))
       (M.pure false))
      (M.pure false))
     (M.pure false)) (fun v37=>
    M.pure v37)))))
end Go.Ep

namespace Go.Proofs
open Go.Shelf
def Tryz.pdq170_ren : Go.Shelf.Ren:=⟨fun | 14=>170 | 20=>183 | 21=>184 | 22=>185 | 23=>186 | 24=>187 | 25=>188 | 26=>189 | 27=>190 | 46=>212 | 47=>213 | 48=>214 | 49=>215 | 50=>216 | 15=>171 | 57=>231 | 28=>191 | 29=>192 | n=>n,fun | 24=>90 | 22=>32 | 3=>3 | 25=>169 | 4=>4 | 0=>0 | 46=>205 | 45=>204 | 50=>190 | 66=>225 | 39=>188 | 55=>85 | 70=>228 | 76=>239 | 77=>240 | 53=>211 | 5=>5 | 9=>9 | n=>n,fun | n=>n⟩
theorem Tryz.pdq170 : Go.Proofs.SlLaysF0.n14 Tryz.prog Tryz.pdq170_ren:={
 mixed:=by kernel_rfl
 f14:=⟨Tryz.f170.name,by decide,Tryz.func170.trans (congrArg some (by kernel_rfl))⟩
 f15:=Tryz.func171.trans (congrArg some (by kernel_rfl))
 f20:=⟨Tryz.f183.name,by decide,Tryz.func183.trans (congrArg some (by kernel_rfl))⟩
 f21:=⟨Tryz.f184.name,by decide,Tryz.func184.trans (congrArg some (by kernel_rfl))⟩
 f22:=⟨Tryz.f185.name,by decide,Tryz.func185.trans (congrArg some (by kernel_rfl))⟩
 f23:=⟨Tryz.f186.name,by decide,Tryz.func186.trans (congrArg some (by kernel_rfl))⟩
 f24:=⟨Tryz.f187.name,by decide,Tryz.func187.trans (congrArg some (by kernel_rfl))⟩
 f25:=⟨Tryz.f188.name,by decide,Tryz.func188.trans (congrArg some (by kernel_rfl))⟩
 f26:=⟨Tryz.f189.name,by decide,Tryz.func189.trans (congrArg some (by kernel_rfl))⟩
 f27:=⟨Tryz.f190.name,by decide,Tryz.func190.trans (congrArg some (by kernel_rfl))⟩
 f28:=Tryz.func191.trans (congrArg some (by kernel_rfl))
 f29:=Tryz.func192.trans (congrArg some (by kernel_rfl))
 f46:=⟨Tryz.f212.name,by decide,Tryz.func212.trans (congrArg some (by kernel_rfl))⟩
 f47:=Tryz.func213.trans (congrArg some (by kernel_rfl))
 f48:=Tryz.func214.trans (congrArg some (by kernel_rfl))
 f49:=⟨Tryz.f215.name,by decide,Tryz.func215.trans (congrArg some (by kernel_rfl))⟩
 f50:=⟨Tryz.f216.name,by decide,Tryz.func216.trans (congrArg some (by kernel_rfl))⟩
 f57:=⟨Tryz.f231.name,by decide,Tryz.func231.trans (congrArg some (by kernel_rfl))⟩
 t0:=Tryz.underlying0
 a0:=Tryz.isAgg0
 z0:=Tryz.sizeOf0
 v0:=Tryz.zeroValue0
 t3:=Tryz.underlying3
 a3:=Tryz.isAgg3
 z3:=Tryz.sizeOf3
 v3:=Tryz.zeroValue3
 t4:=Tryz.underlying4
 a4:=Tryz.isAgg4
 z4:=Tryz.sizeOf4
 v4:=Tryz.zeroValue4
 t5:=Tryz.underlying5
 a5:=Tryz.isAgg5
 z5:=Tryz.sizeOf5
 v5:=Tryz.zeroValue5
 t9:=Tryz.underlying9
 a9:=Tryz.isAgg9
 z9:=Tryz.sizeOf9
 v9:=Tryz.zeroValue9
 t22:=Tryz.underlying32
 a22:=Tryz.isAgg32
 z22:=Tryz.sizeOf32
 v22:=Tryz.zeroValue32
 t25:=Tryz.underlying169
 a25:=Tryz.isAgg169
 z25:=Tryz.sizeOf169
 v25:=Tryz.zeroValue169
 t39:=Tryz.underlying188
 a39:=Tryz.isAgg188
 z39:=Tryz.sizeOf188
 v39:=Tryz.zeroValue188
 t45:=Tryz.underlying204
 a45:=Tryz.isAgg204
 z45:=Tryz.sizeOf204
 v45:=Tryz.zeroValue204
 t46:=Tryz.underlying205
 a46:=Tryz.isAgg205
 z46:=Tryz.sizeOf205
 v46:=Tryz.zeroValue205
 t50:=Tryz.underlying190
 a50:=Tryz.isAgg190
 z50:=Tryz.sizeOf190
 v50:=Tryz.zeroValue190
 t53:=Tryz.underlying211
 a53:=Tryz.isAgg211
 z53:=Tryz.sizeOf211
 v53:=Tryz.zeroValue211
 t55:=Tryz.underlying85
 a55:=Tryz.isAgg85
 z55:=Tryz.sizeOf85
 v55:=Tryz.zeroValue85
 t66:=Tryz.underlying225
 a66:=Tryz.isAgg225
 z66:=Tryz.sizeOf225
 v66:=Tryz.zeroValue225
 t70:=Tryz.underlying228
 a70:=Tryz.isAgg228
 z70:=Tryz.sizeOf228
 v70:=Tryz.zeroValue228
 t76:=Tryz.underlying239
 a76:=Tryz.isAgg239
 z76:=Tryz.sizeOf239
 v76:=Tryz.zeroValue239
 t77:=Tryz.underlying240
 a77:=Tryz.isAgg240
 z77:=Tryz.sizeOf240
 v77:=Tryz.zeroValue240 }
def Tryz.pdq176_ren : Go.Shelf.Ren:=⟨fun | 14=>176 | 20=>194 | 21=>195 | 22=>196 | 23=>197 | 24=>198 | 25=>199 | 26=>200 | 27=>201 | 46=>225 | 47=>213 | 48=>214 | 49=>226 | 50=>227 | 15=>171 | 57=>235 | 28=>191 | 29=>192 | n=>n,fun | 24=>114 | 22=>30 | 3=>3 | 25=>181 | 4=>4 | 0=>0 | 46=>205 | 45=>204 | 50=>190 | 66=>225 | 39=>188 | 55=>85 | 70=>228 | 76=>239 | 77=>240 | 53=>211 | 5=>5 | 9=>9 | n=>n,fun | n=>n⟩
theorem Tryz.pdq176 : Go.Proofs.SlLaysF0.n14 Tryz.prog Tryz.pdq176_ren:={
 mixed:=by kernel_rfl
 f14:=⟨Tryz.f176.name,by decide,Tryz.func176.trans (congrArg some (by kernel_rfl))⟩
 f15:=Tryz.func171.trans (congrArg some (by kernel_rfl))
 f20:=⟨Tryz.f194.name,by decide,Tryz.func194.trans (congrArg some (by kernel_rfl))⟩
 f21:=⟨Tryz.f195.name,by decide,Tryz.func195.trans (congrArg some (by kernel_rfl))⟩
 f22:=⟨Tryz.f196.name,by decide,Tryz.func196.trans (congrArg some (by kernel_rfl))⟩
 f23:=⟨Tryz.f197.name,by decide,Tryz.func197.trans (congrArg some (by kernel_rfl))⟩
 f24:=⟨Tryz.f198.name,by decide,Tryz.func198.trans (congrArg some (by kernel_rfl))⟩
 f25:=⟨Tryz.f199.name,by decide,Tryz.func199.trans (congrArg some (by kernel_rfl))⟩
 f26:=⟨Tryz.f200.name,by decide,Tryz.func200.trans (congrArg some (by kernel_rfl))⟩
 f27:=⟨Tryz.f201.name,by decide,Tryz.func201.trans (congrArg some (by kernel_rfl))⟩
 f28:=Tryz.func191.trans (congrArg some (by kernel_rfl))
 f29:=Tryz.func192.trans (congrArg some (by kernel_rfl))
 f46:=⟨Tryz.f225.name,by decide,Tryz.func225.trans (congrArg some (by kernel_rfl))⟩
 f47:=Tryz.func213.trans (congrArg some (by kernel_rfl))
 f48:=Tryz.func214.trans (congrArg some (by kernel_rfl))
 f49:=⟨Tryz.f226.name,by decide,Tryz.func226.trans (congrArg some (by kernel_rfl))⟩
 f50:=⟨Tryz.f227.name,by decide,Tryz.func227.trans (congrArg some (by kernel_rfl))⟩
 f57:=⟨Tryz.f235.name,by decide,Tryz.func235.trans (congrArg some (by kernel_rfl))⟩
 t0:=Tryz.underlying0
 a0:=Tryz.isAgg0
 z0:=Tryz.sizeOf0
 v0:=Tryz.zeroValue0
 t3:=Tryz.underlying3
 a3:=Tryz.isAgg3
 z3:=Tryz.sizeOf3
 v3:=Tryz.zeroValue3
 t4:=Tryz.underlying4
 a4:=Tryz.isAgg4
 z4:=Tryz.sizeOf4
 v4:=Tryz.zeroValue4
 t5:=Tryz.underlying5
 a5:=Tryz.isAgg5
 z5:=Tryz.sizeOf5
 v5:=Tryz.zeroValue5
 t9:=Tryz.underlying9
 a9:=Tryz.isAgg9
 z9:=Tryz.sizeOf9
 v9:=Tryz.zeroValue9
 t22:=Tryz.underlying30
 a22:=Tryz.isAgg30
 z22:=Tryz.sizeOf30
 v22:=Tryz.zeroValue30
 t25:=Tryz.underlying181
 a25:=Tryz.isAgg181
 z25:=Tryz.sizeOf181
 v25:=Tryz.zeroValue181
 t39:=Tryz.underlying188
 a39:=Tryz.isAgg188
 z39:=Tryz.sizeOf188
 v39:=Tryz.zeroValue188
 t45:=Tryz.underlying204
 a45:=Tryz.isAgg204
 z45:=Tryz.sizeOf204
 v45:=Tryz.zeroValue204
 t46:=Tryz.underlying205
 a46:=Tryz.isAgg205
 z46:=Tryz.sizeOf205
 v46:=Tryz.zeroValue205
 t50:=Tryz.underlying190
 a50:=Tryz.isAgg190
 z50:=Tryz.sizeOf190
 v50:=Tryz.zeroValue190
 t53:=Tryz.underlying211
 a53:=Tryz.isAgg211
 z53:=Tryz.sizeOf211
 v53:=Tryz.zeroValue211
 t55:=Tryz.underlying85
 a55:=Tryz.isAgg85
 z55:=Tryz.sizeOf85
 v55:=Tryz.zeroValue85
 t66:=Tryz.underlying225
 a66:=Tryz.isAgg225
 z66:=Tryz.sizeOf225
 v66:=Tryz.zeroValue225
 t70:=Tryz.underlying228
 a70:=Tryz.isAgg228
 z70:=Tryz.sizeOf228
 v70:=Tryz.zeroValue228
 t76:=Tryz.underlying239
 a76:=Tryz.isAgg239
 z76:=Tryz.sizeOf239
 v76:=Tryz.zeroValue239
 t77:=Tryz.underlying240
 a77:=Tryz.isAgg240
 z77:=Tryz.sizeOf240
 v77:=Tryz.zeroValue240 }
def Tryz.pdq178_ren : Go.Shelf.Ren:=⟨fun | 14=>178 | 20=>203 | 21=>204 | 22=>205 | 23=>206 | 24=>207 | 25=>208 | 26=>209 | 27=>210 | 46=>228 | 47=>213 | 48=>214 | 49=>229 | 50=>230 | 15=>171 | 57=>236 | 28=>191 | 29=>192 | n=>n,fun | 24=>87 | 22=>88 | 3=>3 | 25=>94 | 4=>4 | 0=>0 | 46=>205 | 45=>204 | 50=>190 | 66=>225 | 39=>188 | 55=>85 | 70=>228 | 76=>239 | 77=>240 | 53=>211 | 5=>5 | 9=>9 | n=>n,fun | n=>n⟩
theorem Tryz.pdq178 : Go.Proofs.SlLaysF0.n14 Tryz.prog Tryz.pdq178_ren:={
 mixed:=by kernel_rfl
 f14:=⟨Tryz.f178.name,by decide,Tryz.func178.trans (congrArg some (by kernel_rfl))⟩
 f15:=Tryz.func171.trans (congrArg some (by kernel_rfl))
 f20:=⟨Tryz.f203.name,by decide,Tryz.func203.trans (congrArg some (by kernel_rfl))⟩
 f21:=⟨Tryz.f204.name,by decide,Tryz.func204.trans (congrArg some (by kernel_rfl))⟩
 f22:=⟨Tryz.f205.name,by decide,Tryz.func205.trans (congrArg some (by kernel_rfl))⟩
 f23:=⟨Tryz.f206.name,by decide,Tryz.func206.trans (congrArg some (by kernel_rfl))⟩
 f24:=⟨Tryz.f207.name,by decide,Tryz.func207.trans (congrArg some (by kernel_rfl))⟩
 f25:=⟨Tryz.f208.name,by decide,Tryz.func208.trans (congrArg some (by kernel_rfl))⟩
 f26:=⟨Tryz.f209.name,by decide,Tryz.func209.trans (congrArg some (by kernel_rfl))⟩
 f27:=⟨Tryz.f210.name,by decide,Tryz.func210.trans (congrArg some (by kernel_rfl))⟩
 f28:=Tryz.func191.trans (congrArg some (by kernel_rfl))
 f29:=Tryz.func192.trans (congrArg some (by kernel_rfl))
 f46:=⟨Tryz.f228.name,by decide,Tryz.func228.trans (congrArg some (by kernel_rfl))⟩
 f47:=Tryz.func213.trans (congrArg some (by kernel_rfl))
 f48:=Tryz.func214.trans (congrArg some (by kernel_rfl))
 f49:=⟨Tryz.f229.name,by decide,Tryz.func229.trans (congrArg some (by kernel_rfl))⟩
 f50:=⟨Tryz.f230.name,by decide,Tryz.func230.trans (congrArg some (by kernel_rfl))⟩
 f57:=⟨Tryz.f236.name,by decide,Tryz.func236.trans (congrArg some (by kernel_rfl))⟩
 t0:=Tryz.underlying0
 a0:=Tryz.isAgg0
 z0:=Tryz.sizeOf0
 v0:=Tryz.zeroValue0
 t3:=Tryz.underlying3
 a3:=Tryz.isAgg3
 z3:=Tryz.sizeOf3
 v3:=Tryz.zeroValue3
 t4:=Tryz.underlying4
 a4:=Tryz.isAgg4
 z4:=Tryz.sizeOf4
 v4:=Tryz.zeroValue4
 t5:=Tryz.underlying5
 a5:=Tryz.isAgg5
 z5:=Tryz.sizeOf5
 v5:=Tryz.zeroValue5
 t9:=Tryz.underlying9
 a9:=Tryz.isAgg9
 z9:=Tryz.sizeOf9
 v9:=Tryz.zeroValue9
 t22:=Tryz.underlying88
 a22:=Tryz.isAgg88
 z22:=Tryz.sizeOf88
 v22:=Tryz.zeroValue88
 t25:=Tryz.underlying94
 a25:=Tryz.isAgg94
 z25:=Tryz.sizeOf94
 v25:=Tryz.zeroValue94
 t39:=Tryz.underlying188
 a39:=Tryz.isAgg188
 z39:=Tryz.sizeOf188
 v39:=Tryz.zeroValue188
 t45:=Tryz.underlying204
 a45:=Tryz.isAgg204
 z45:=Tryz.sizeOf204
 v45:=Tryz.zeroValue204
 t46:=Tryz.underlying205
 a46:=Tryz.isAgg205
 z46:=Tryz.sizeOf205
 v46:=Tryz.zeroValue205
 t50:=Tryz.underlying190
 a50:=Tryz.isAgg190
 z50:=Tryz.sizeOf190
 v50:=Tryz.zeroValue190
 t53:=Tryz.underlying211
 a53:=Tryz.isAgg211
 z53:=Tryz.sizeOf211
 v53:=Tryz.zeroValue211
 t55:=Tryz.underlying85
 a55:=Tryz.isAgg85
 z55:=Tryz.sizeOf85
 v55:=Tryz.zeroValue85
 t66:=Tryz.underlying225
 a66:=Tryz.isAgg225
 z66:=Tryz.sizeOf225
 v66:=Tryz.zeroValue225
 t70:=Tryz.underlying228
 a70:=Tryz.isAgg228
 z70:=Tryz.sizeOf228
 v70:=Tryz.zeroValue228
 t76:=Tryz.underlying239
 a76:=Tryz.isAgg239
 z76:=Tryz.sizeOf239
 v76:=Tryz.zeroValue239
 t77:=Tryz.underlying240
 a77:=Tryz.isAgg240
 z77:=Tryz.sizeOf240
 v77:=Tryz.zeroValue240 }
def Tryz.pdq193_ren : Go.Shelf.Ren:=⟨fun | 14=>193 | 20=>217 | 21=>218 | 22=>219 | 23=>220 | 24=>221 | 25=>222 | 26=>223 | 27=>224 | 46=>232 | 47=>213 | 48=>214 | 49=>233 | 50=>234 | 15=>171 | 57=>237 | 28=>191 | 29=>192 | n=>n,fun | 24=>119 | 22=>112 | 3=>3 | 25=>198 | 4=>4 | 0=>0 | 46=>205 | 45=>204 | 50=>190 | 66=>225 | 39=>188 | 55=>85 | 70=>228 | 76=>239 | 77=>240 | 53=>211 | 5=>5 | 9=>9 | n=>n,fun | n=>n⟩
theorem Tryz.pdq193 : Go.Proofs.SlLaysF0.n14 Tryz.prog Tryz.pdq193_ren:={
 mixed:=by kernel_rfl
 f14:=⟨Tryz.f193.name,by decide,Tryz.func193.trans (congrArg some (by kernel_rfl))⟩
 f15:=Tryz.func171.trans (congrArg some (by kernel_rfl))
 f20:=⟨Tryz.f217.name,by decide,Tryz.func217.trans (congrArg some (by kernel_rfl))⟩
 f21:=⟨Tryz.f218.name,by decide,Tryz.func218.trans (congrArg some (by kernel_rfl))⟩
 f22:=⟨Tryz.f219.name,by decide,Tryz.func219.trans (congrArg some (by kernel_rfl))⟩
 f23:=⟨Tryz.f220.name,by decide,Tryz.func220.trans (congrArg some (by kernel_rfl))⟩
 f24:=⟨Tryz.f221.name,by decide,Tryz.func221.trans (congrArg some (by kernel_rfl))⟩
 f25:=⟨Tryz.f222.name,by decide,Tryz.func222.trans (congrArg some (by kernel_rfl))⟩
 f26:=⟨Tryz.f223.name,by decide,Tryz.func223.trans (congrArg some (by kernel_rfl))⟩
 f27:=⟨Tryz.f224.name,by decide,Tryz.func224.trans (congrArg some (by kernel_rfl))⟩
 f28:=Tryz.func191.trans (congrArg some (by kernel_rfl))
 f29:=Tryz.func192.trans (congrArg some (by kernel_rfl))
 f46:=⟨Tryz.f232.name,by decide,Tryz.func232.trans (congrArg some (by kernel_rfl))⟩
 f47:=Tryz.func213.trans (congrArg some (by kernel_rfl))
 f48:=Tryz.func214.trans (congrArg some (by kernel_rfl))
 f49:=⟨Tryz.f233.name,by decide,Tryz.func233.trans (congrArg some (by kernel_rfl))⟩
 f50:=⟨Tryz.f234.name,by decide,Tryz.func234.trans (congrArg some (by kernel_rfl))⟩
 f57:=⟨Tryz.f237.name,by decide,Tryz.func237.trans (congrArg some (by kernel_rfl))⟩
 t0:=Tryz.underlying0
 a0:=Tryz.isAgg0
 z0:=Tryz.sizeOf0
 v0:=Tryz.zeroValue0
 t3:=Tryz.underlying3
 a3:=Tryz.isAgg3
 z3:=Tryz.sizeOf3
 v3:=Tryz.zeroValue3
 t4:=Tryz.underlying4
 a4:=Tryz.isAgg4
 z4:=Tryz.sizeOf4
 v4:=Tryz.zeroValue4
 t5:=Tryz.underlying5
 a5:=Tryz.isAgg5
 z5:=Tryz.sizeOf5
 v5:=Tryz.zeroValue5
 t9:=Tryz.underlying9
 a9:=Tryz.isAgg9
 z9:=Tryz.sizeOf9
 v9:=Tryz.zeroValue9
 t22:=Tryz.underlying112
 a22:=Tryz.isAgg112
 z22:=Tryz.sizeOf112
 v22:=Tryz.zeroValue112
 t25:=Tryz.underlying198
 a25:=Tryz.isAgg198
 z25:=Tryz.sizeOf198
 v25:=Tryz.zeroValue198
 t39:=Tryz.underlying188
 a39:=Tryz.isAgg188
 z39:=Tryz.sizeOf188
 v39:=Tryz.zeroValue188
 t45:=Tryz.underlying204
 a45:=Tryz.isAgg204
 z45:=Tryz.sizeOf204
 v45:=Tryz.zeroValue204
 t46:=Tryz.underlying205
 a46:=Tryz.isAgg205
 z46:=Tryz.sizeOf205
 v46:=Tryz.zeroValue205
 t50:=Tryz.underlying190
 a50:=Tryz.isAgg190
 z50:=Tryz.sizeOf190
 v50:=Tryz.zeroValue190
 t53:=Tryz.underlying211
 a53:=Tryz.isAgg211
 z53:=Tryz.sizeOf211
 v53:=Tryz.zeroValue211
 t55:=Tryz.underlying85
 a55:=Tryz.isAgg85
 z55:=Tryz.sizeOf85
 v55:=Tryz.zeroValue85
 t66:=Tryz.underlying225
 a66:=Tryz.isAgg225
 z66:=Tryz.sizeOf225
 v66:=Tryz.zeroValue225
 t70:=Tryz.underlying228
 a70:=Tryz.isAgg228
 z70:=Tryz.sizeOf228
 v70:=Tryz.zeroValue228
 t76:=Tryz.underlying239
 a76:=Tryz.isAgg239
 z76:=Tryz.sizeOf239
 v76:=Tryz.zeroValue239
 t77:=Tryz.underlying240
 a77:=Tryz.isAgg240
 z77:=Tryz.sizeOf240
 v77:=Tryz.zeroValue240 }
def Tryz.bits171_ren : Go.Shelf.Ren:=⟨fun | 15=>171 | 28=>191 | 29=>192 | n=>n,fun | 39=>188 | 3=>3 | 53=>211 | 55=>85 | 4=>4 | 5=>5 | 9=>9 | n=>n,fun | n=>n⟩
theorem Tryz.bits171 : Go.Proofs.SlLaysF0.n15 Tryz.prog Tryz.bits171_ren:={
 mixed:=by kernel_rfl
 f15:=Tryz.func171.trans (congrArg some (by kernel_rfl))
 f28:=Tryz.func191.trans (congrArg some (by kernel_rfl))
 f29:=Tryz.func192.trans (congrArg some (by kernel_rfl))
 t3:=Tryz.underlying3
 a3:=Tryz.isAgg3
 z3:=Tryz.sizeOf3
 v3:=Tryz.zeroValue3
 t4:=Tryz.underlying4
 a4:=Tryz.isAgg4
 z4:=Tryz.sizeOf4
 v4:=Tryz.zeroValue4
 t5:=Tryz.underlying5
 a5:=Tryz.isAgg5
 z5:=Tryz.sizeOf5
 v5:=Tryz.zeroValue5
 t9:=Tryz.underlying9
 a9:=Tryz.isAgg9
 z9:=Tryz.sizeOf9
 v9:=Tryz.zeroValue9
 t39:=Tryz.underlying188
 a39:=Tryz.isAgg188
 z39:=Tryz.sizeOf188
 v39:=Tryz.zeroValue188
 t53:=Tryz.underlying211
 a53:=Tryz.isAgg211
 z53:=Tryz.sizeOf211
 v53:=Tryz.zeroValue211
 t55:=Tryz.underlying85
 a55:=Tryz.isAgg85
 z55:=Tryz.sizeOf85
 v55:=Tryz.zeroValue85 }
end Go.Proofs

namespace Go.Ep
open Go.Shelf Go.RowKit Go.Lib Go.Sort Go.Proofs

theorem SortLaw.of {α:Type} [Inhabited α] {P:Program} {f g:FuncId} {k:Nat} {enc:α -> List Value} {lt:α -> α -> Bool} {cf:α -> α -> Int} (hO:SWO (ltOf cf)) (hlt:∀ x y,ltOf cf x y = lt x y) (hk:∀ x,(enc x).length = k)
  (hnil:∀ w:World,Calls P f #[.slice none 0 0,.func (.func g) #[] #[]] w fun e w'=>e = .returned (.tuple #[]) /\ Go.RowKit.Below w.heap.size w w')
  (hrow:∀ (blk off cap:Nat) (d:Array α) (w:World),HoldsK enc k w blk off d -> blk < w.heap.size -> d.size < 4611686018427387904 ->
   Calls P f #[.slice (some ⟨blk,off,none⟩) d.size cap,.func (.func g) #[] #[]] w fun e w'=>e = .returned (.tuple #[]) /\ ∃ n os,w' = sortWorldK enc k w blk off n (pdq (ltOf cf) d 0 d.size (Lib.bitLen d.size) true true) os):SortLaw P f g k enc lt:=by
 refine ⟨hnil,fun w blk cap l T cur hh hlc hcs hlen hcells=>?_⟩;have hblk:blk < w.heap.size:=(Array.getElem?_eq_some_iff.1 hh).1;have hH:HoldsK enc k w blk 0 l.toArray:=by
  intro j hj;rw [size_flatK] at hj;have hj':j < l.length * k:=by simpa using hj
  obtain ⟨hk0,h1,h2,h3⟩:=VW hj'
  constructor
  ·rw [Nat.zero_add,zn hh];show _ = some ((flatK enc k l.toArray)[j]!);rw [get_flatK _ _ _ _ hj];have hx:l[j / k]? = some l[j / k]:=List.getElem?_eq_getElem h1;have hlk:(enc l[j / k]).length = k:=hk _;have hu:(enc l[j / k])[j % k]? = some ((enc l[j / k])[j % k]'(by omega)):=List.getElem?_eq_getElem (by omega);have:=hcells (j / k) _ (j % k) _ hx hu;rw [h3] at this;rw [this];have e1:(l.toArray)[j / k]! = l[j / k]:=by simp [h1]
   rw [e1];simp [hu]
  ·simp [World.frozen?,hh]
 have hd:l.toArray.size = l.length:=by simp
 have hcall:=hrow blk 0 cap l.toArray w hH hblk (by simpa using hlen);rw [hd] at hcall;refine hcall.mono fun e w' ⟨he,n,os,hw⟩=>⟨he,?_⟩
 have hp:=pdq_sorts (ltOf cf) hO l.toArray 0 l.toArray.size (Lib.bitLen l.toArray.size) true true (Nat.zero_le _) (Nat.le_refl _) (Or.inl rfl);rw [hd] at hp
 generalize pdq (ltOf cf) l.toArray 0 l.length (Lib.bitLen l.length) true true = d' at hp hw
 obtain ⟨⟨hsz,_,hperm⟩,hsort⟩:=hp;have hsz':d'.size = l.length:=by simpa using hsz
 have hp':d'.toList.Perm l:=by
  have e1:(d'.extract 0 l.length).toList = d'.toList:=by rw [<- hsz'];simp
  have e2:(l.toArray.extract 0 l.length).toList = l:=by simp
  rw [e1,e2] at hperm;exact hperm
 have hmod:∀ b,b < w.heap.size -> (sortWorldK enc k w blk 0 n d' os).heap[b]? = if blk = b then (w.heap[b]?).map (onCells (putCells id 0 (flatK enc k d'))) else w.heap[b]?:=by
  intro b hb;have hb2:b < (putRowK enc k (Sort.ahead w n) blk 0 d').heap.size:=by simpa [putRowK,Sort.ahead] using hb
  show (grow (putRowK enc k (Sort.ahead w n) blk 0 d') os).heap[b]? = _;rw [Sort.heap_grow_old _ _ hb2];show ((w.heap.modify blk (onCells (putCells id 0 (flatK enc k d')))))[b]? = _;rw [Array.getElem?_modify]
 subst hw;refine ⟨d'.toList,(putCells id 0 (flatK enc k d') cur.toArray).toList,hp',?_,?_,?_,?_,rfl,rfl,rfl,?_,?_⟩
 ·rw [List.pairwise_iff_getElem];intro i j hi hj hij;have:=hsort i j (Nat.zero_le _) hij (by simpa [hsz'] using hj);rw [hlt] at this;have hi':i < d'.size:=by simpa using hi
  have hj':j < d'.size:=by simpa using hj
  simpa [hi',hj'] using this
 ·rw [hmod blk hblk,if_pos rfl,hh];simp [onCells]
 ·simp [putCells]
 ·intro i x j u hi hu;have hi':i < l.length:=by rw [<- hsz'];have:=(List.getElem?_eq_some_iff.1 hi).1;simpa using this
  have hj:j < k:=by rw [<- hk x];exact (List.getElem?_eq_some_iff.1 hu).1
  have hlt2:i * k + j < l.length * k:=XY hi' hj;have hcl:l.length * k <= cur.length:=by rw [hcs];exact Nat.mul_le_mul_right k hlc
  have hin:i * k + j < d'.size * k:=by rw [hsz'];exact hlt2
  have hget:(flatK enc k d')[i * k + j]! = u:=by
   rw [get_flatK _ _ _ _ hin];have hk0:0 < k:=by omega
   have e1:(i * k + j) / k = i:=by rw [Nat.mul_comm,Nat.mul_add_div hk0,Nat.div_eq_of_lt hj];omega
   have e2:(i * k + j) % k = j:=by rw [Nat.mul_comm,Nat.mul_add_mod,Nat.mod_eq_of_lt hj]
   rw [e1,e2];have e3:d'[i]! = x:=by
    obtain ⟨h1,h2⟩:=List.getElem?_eq_some_iff.1 hi;have h1':i < d'.size:=by simpa using h1
    rw [getElem!_pos d' i h1'];simpa using h2
   rw [e3];simp [hu]
  have hc2:i * k + j < cur.length:=by omega
  simp only [putCells,Array.toList_mapIdx,List.getElem?_mapIdx];rw [List.getElem?_eq_getElem hc2];simp only [Option.map_some,id];rw [if_pos ⟨Nat.zero_le _,by rw [size_flatK];omega⟩,Nat.sub_zero,hget]
 ·show w.heap.size <= (grow (putRowK enc k (Sort.ahead w n) blk 0 d') os).heap.size;simp [grow,putRowK,Sort.ahead]
 ·intro b hb hne;rw [hmod b hb,if_neg (Ne.symm hne)]
end Go.Ep

namespace Go.Proofs
set_option linter.unusedSimpArgs false
set_option linter.unusedVariables false
open Go.Shelf Go.RowKit Go.Lib Go.Sort Go.Ep
theorem uVa (a:Int) (W:World):Calls Tryz.prog 155 #[.int .u16 a] W fun e w'=>e = .returned (.bool false) /\ w' = W:=by
 go_enter Tryz.func155,Tryz.ntmps155
 go_wp2
 go_ret
 exact ⟨by simp,rfl⟩
theorem uWa (a b:Int) (W:World):Calls Tryz.prog 112 #[.int .u16 a,.int .u16 b] W fun e w'=>e = .returned (.int .i64 (Lib.compareInt a b)) /\ w' = W:=by
 unfold Lib.compareInt
 by_cases h1:a < b
 ·go_enter Tryz.func112,Tryz.ntmps112
  go_wp2_with (go_at_call 155;refine (uVa _ _).mono ?_;rintro e w' ⟨rfl,rfl⟩)
  go_ret
  exact ⟨by simp [h1],rfl⟩
 ·by_cases h2:b < a
  ·go_enter Tryz.func112,Tryz.ntmps112
   go_wp2_with (go_at_call 155;refine (uVa _ _).mono ?_;rintro e w' ⟨rfl,rfl⟩)
   go_ret
   exact ⟨by simp [h1,h2],rfl⟩
  ·go_enter Tryz.func112,Tryz.ntmps112
   go_wp2_with (go_at_call 155;refine (uVa _ _).mono ?_;rintro e w' ⟨rfl,rfl⟩)
   go_ret
   exact ⟨by simp [h1,h2],rfl⟩
theorem uXa (a:Int) (W:World):Calls Tryz.prog 156 #[.int .u64 a] W fun e w'=>e = .returned (.bool false) /\ w' = W:=by
 go_enter Tryz.func156,Tryz.ntmps156
 go_wp2
 go_ret
 exact ⟨by simp,rfl⟩
theorem uYa (a b:Int) (W:World):Calls Tryz.prog 113 #[.int .u64 a,.int .u64 b] W fun e w'=>e = .returned (.int .i64 (Lib.compareInt a b)) /\ w' = W:=by
 unfold Lib.compareInt
 by_cases h1:a < b
 ·go_enter Tryz.func113,Tryz.ntmps113
  go_wp2_with (go_at_call 156;refine (uXa _ _).mono ?_;rintro e w' ⟨rfl,rfl⟩)
  go_ret
  exact ⟨by simp [h1],rfl⟩
 ·by_cases h2:b < a
  ·go_enter Tryz.func113,Tryz.ntmps113
   go_wp2_with (go_at_call 156;refine (uXa _ _).mono ?_;rintro e w' ⟨rfl,rfl⟩)
   go_ret
   exact ⟨by simp [h1,h2],rfl⟩
  ·go_enter Tryz.func113,Tryz.ntmps113
   go_wp2_with (go_at_call 156;refine (uXa _ _).mono ?_;rintro e w' ⟨rfl,rfl⟩)
   go_ret
   exact ⟨by simp [h1,h2],rfl⟩
theorem uZa (W:World) (a b:Array Obj) (q:Nat):grow ((grow W a).drewN q) b = grow (W.drewN q) (a ++ b):=by
 show grow (grow (W.drewN q) a) b = _;rw [grow_grow]
def JS (a b c d:Int):Int:=if Lib.compareInt a c ≠ 0 then Lib.compareInt a c else Lib.compareInt b d
theorem vaa (a b c d:Int) (W:World):Calls Tryz.prog 65 #[.agg #[.int .u16 a,.int .u64 b],.agg #[.int .u16 c,.int .u64 d]] W fun e w'=>e = .returned (.int .i64 (JS a b c d)) /\ ∃ q os',w' = grow (W.drewN q) os':=by
 have c1:=fun W'=>uWa a c W'
 have c2:=fun W'=>uYa b d W'
 unfold JS
 generalize Lib.compareInt a c = r1 at c1 ⊢
 generalize Lib.compareInt b d = r2 at c2 ⊢
 by_cases h:r1 = 0
 ·subst h
  go_enter Tryz.func65,Tryz.ntmps65
  go_wp2_with (first | (go_at_call 112;refine (c1 _).mono ?_;rintro e w' ⟨rfl,rfl⟩) | (go_at_call 113;refine (c2 _).mono ?_;rintro e w' ⟨rfl,rfl⟩))
  go_ret
  exact ⟨by simp,0,_,by rw [alloc_eq_grow,alloc_eq_grow,grow_grow];rfl⟩
 ·go_enter Tryz.func65,Tryz.ntmps65
  go_wp2_with (first | (go_at_call 112;refine (c1 _).mono ?_;rintro e w' ⟨rfl,rfl⟩) | (go_at_call 113;refine (c2 _).mono ?_;rintro e w' ⟨rfl,rfl⟩))
  go_ret
  exact ⟨by simp [h],0,_,by rw [alloc_eq_grow,alloc_eq_grow,grow_grow];rfl⟩
structure RawTEvent where
 dot_dev_:Int
 dot_n_:Int
 c2:Value
 h2:c2.oneCell' = true
 c3:Value
 h3:c3.oneCell' = true
 c4:Value
 h4:c4.oneCell' = true
 c5:Value
 h5:c5.oneCell' = true
 c6:Value
 h6:c6.oneCell' = true
def RawTEvent.v (r:RawTEvent):List Value:=[.int .u16 r.dot_dev_,.int .u64 r.dot_n_,r.c2,r.c3,r.c4,r.c5,r.c6]
theorem RawTEvent.v1 (r:RawTEvent):∀ u ∈ r.v,u.oneCell' = true:=by
 intro u hu;simp only [RawTEvent.v,List.mem_cons,List.not_mem_nil,or_false] at hu;rcases hu with rfl | rfl | rfl | rfl | rfl | rfl | rfl
 ·rfl
 ·rfl
 ·exact r.h2
 ·exact r.h3
 ·exact r.h4
 ·exact r.h5
 ·exact r.h6
def RawTEvent.R (x:EV) (r:RawTEvent):Prop:=r.dot_dev_ = x.dot.dev /\ r.dot_n_ = x.dot.n
theorem RawTEvent.raw (w:World) (S:Nat -> Prop) (x:EV) (us:List Value) (hl:us.length = 7) (h:∀ (j:Nat) (d:DV) (u:Value),(EV.e x)[j]? = some d -> us[j]? = some u -> DRd w S d u):∃ r:RawTEvent,r.v = us /\ RawTEvent.R x r:=by
 match us,hl with
 | [u0,u1,u2,u3,u4,u5,u6],_=>
  refine ⟨⟨x.dot.dev,x.dot.n,u2,(h 2 _ u2 rfl rfl).one,u3,(h 3 _ u3 rfl rfl).one,u4,(h 4 _ u4 rfl rfl).one,u5,(h 5 _ u5 rfl rfl).one,u6,(h 6 _ u6 rfl rfl).one⟩,?_,⟨rfl,rfl⟩⟩;have e0:=h 0 _ u0 rfl rfl
  cases e0
  have e1:=h 1 _ u1 rfl rfl
  cases e1
  rfl
def yMa (x y:RawTEvent):Int:=JS x.dot_dev_ x.dot_n_ y.dot_dev_ y.dot_n_
theorem uaa (x y:RawTEvent) (W:World):Calls Tryz.prog 142 #[.agg #[.int .u16 x.dot_dev_,.int .u64 x.dot_n_,x.c2,x.c3,x.c4,x.c5,x.c6],.agg #[.int .u16 y.dot_dev_,.int .u64 y.dot_n_,y.c2,y.c3,y.c4,y.c5,y.c6]] W fun e w'=>e = .returned (.int .i64 (yMa x y)) /\ ∃ q os',w' = grow (W.drewN q) os':=by
 have c1:=fun W'=>vaa x.dot_dev_ x.dot_n_ y.dot_dev_ y.dot_n_ W'
 unfold yMa
 generalize JS x.dot_dev_ x.dot_n_ y.dot_dev_ y.dot_n_ = r1 at c1 ⊢
 go_enter Tryz.func142,Tryz.ntmps142
 go_wp2_with (go_at_call 65;refine (c1 _).mono ?_;rintro e w' ⟨rfl,q,os',rfl⟩)
 go_ret
 exact ⟨rfl,q,_,by rw [alloc_eq_grow,alloc_eq_grow,grow_grow,uZa]⟩
theorem Qq (x y:RawTEvent):ltOf yMa x y = (fun x y:RawTEvent=>decide (x.dot_dev_ < y.dot_dev_) || (decide (x.dot_dev_ = y.dot_dev_) && decide (x.dot_n_ < y.dot_n_))) x y:=by
 unfold ltOf yMa JS Lib.compareInt ;rw [Bool.eq_iff_iff];simp only [decide_eq_true_eq,Bool.or_eq_true,Bool.and_eq_true]
 split <;> (repeat' split) <;> omega
theorem wca : SWO (ltOf yMa) where
 irrefl x:=by rw [Qq];simp []
 trans x y z h1 h2:=by rw [Qq] at *;simp [] at *;omega
 ntrans x y z h1 h2:=by rw [Qq] at *;simp [] at *;omega
instance inhcf141 : Inhabited RawTEvent:=⟨⟨0,0,.int .u64 0,rfl,.int .u64 0,rfl,.int .u64 0,rfl,.int .u64 0,rfl,.int .u64 0,rfl⟩⟩
theorem uba (blk off size:Nat) (w:World):CmpLays Tryz.prog 142 #[] RawTEvent.v 7 yMa blk off size w:=fun _ _ _ _ x y=>uaa x y _
set_option maxHeartbeats 2000000 in
set_option maxRecDepth 100000 in
theorem vba (blk off cap:Nat) (d:Array RawTEvent) (w:World) (hH:HoldsK RawTEvent.v 7 w blk off d) (hblk:blk < w.heap.size) (hsz:d.size < 4611686018427387904) :
  Calls Tryz.prog 141 #[.slice (some ⟨blk,off,none⟩) d.size cap,.func (.func 142) #[] #[]] w fun e w'=>e = .returned (.tuple #[]) /\ ∃ n os,w' = sortWorldK RawTEvent.v 7 w blk off n (pdq (ltOf yMa) d 0 d.size (Lib.bitLen d.size) true true) os:=by
 have eg:∀ args w,(callFunc 142 args).run Tryz.prog w = .ok (.enter 142 args) w:=Tryz.call142;have e14:=Tryz.call170;have e15:=Tryz.call171;have hlim:Lib.bitLen d.size < 4611686018427387904:=Nat.lt_of_le_of_lt (Lib.bitLen_le d.size 62 (by omega) (by omega)) (by omega);have hp:=AnyQ.pdqsortCmpFunc_all Tryz.pdq170 7 Tryz.isAgg90 Tryz.sizeOf90 RawTEvent.v yMa 142 #[] wca blk off cap d w eg (uba blk off d.size w) ⟨fun _=>rfl,RawTEvent.v1,hH,hblk⟩ (d.size + 1) 0 d.size (Lib.bitLen d.size) d w (by omega) rfl (SWK.start hH) (Nat.zero_le _) (Nat.le_refl _) hsz hlim (Or.inl rfl)
 change Calls Tryz.prog 170 _ _ _ at hp
 have hl:Calls Tryz.prog 171 #[.int .u64 (d.size:Int)] w fun e w'=>e = .returned (.int .i64 (Lib.bitLen d.size:Nat)) /\ w' = w:=by
  have h:=Any.bits_Len (SlLaysF0.n15.bits Tryz.bits171) (d.size:Int) w (by omega) (by omega)
  rwa [Int.toNat_natCast] at h
 have wr:IntKind.u64.wrap (d.size:Int) = d.size:=by simp [IntKind.wrap,IntKind.bits,IntKind.signed];omega
 clear hH
 go_enter Tryz.func141,Tryz.ntmps141
 go_wp2_with (first | (go_at_call 171;refine hl.mono ?_;rintro e w' ⟨rfl,rfl⟩) | (go_at_call 170;refine hp.mono ?_;rintro e w' ⟨rfl,n,os,rfl⟩))
 go_end0
 exact ⟨rfl,n,os,rfl⟩
theorem xZa (w:World):Calls Tryz.prog 141 #[.slice none 0 0,.func (.func 142) #[] #[]] w fun e w'=>e = .returned (.tuple #[]) /\ Go.RowKit.Below w.heap.size w w':=by
 have e14:=Tryz.call170;have e15:=Tryz.call171;have hp:=fun lim W=>AnyF.pdqsortCmpFunc_none Tryz.pdq170 none 0 lim (.func (.func 142) #[] #[]) W
 have hl:∀ W,Calls Tryz.prog 171 #[.int .u64 0] W fun e w'=>e = .returned (.int .i64 (Lib.bitLen 0:Nat)) /\ w' = W:=fun W=>by
  have h:=Any.bits_Len (SlLaysF0.n15.bits Tryz.bits171) 0 W (by omega) (by omega);exact h
 go_enter Tryz.func141,Tryz.ntmps141
 go_wp2_with (first | (go_at_call 171;refine (hl _).mono ?_;rintro e w' ⟨rfl,rfl⟩) | (go_at_call 170;refine (hp _ _).mono ?_;rintro e w' ⟨rfl,rfl⟩))
 go_end0
 exact ⟨rfl,Go.RowKit.Below.refl _ _⟩
theorem vca : SortLaw Tryz.prog 141 142 7 RawTEvent.v (fun x y:RawTEvent=>decide (x.dot_dev_ < y.dot_dev_) || (decide (x.dot_dev_ = y.dot_dev_) && decide (x.dot_n_ < y.dot_n_))):=SortLaw.of wca Qq (fun _=>rfl) xZa (fun blk off cap d w hH hblk hsz=>vba blk off cap d w hH hblk hsz)
theorem rlt141 (x y:EV) (r r':RawTEvent) (h1:RawTEvent.R x r) (h2:RawTEvent.R y r'):((fun x y:RawTEvent=>decide (x.dot_dev_ < y.dot_dev_) || (decide (x.dot_dev_ = y.dot_dev_) && decide (x.dot_n_ < y.dot_n_)))) r r' = Xn x y:=by simp only [RawTEvent.R] at h1 h2;simp [h1,h2,Xn]
structure RawTPart where
 dev_:Int
 c1:Value
 h1:c1.oneCell' = true
def RawTPart.v (r:RawTPart):List Value:=[.int .u16 r.dev_,r.c1]
theorem RawTPart.v1 (r:RawTPart):∀ u ∈ r.v,u.oneCell' = true:=by
 intro u hu;simp only [RawTPart.v,List.mem_cons,List.not_mem_nil,or_false] at hu;rcases hu with rfl | rfl
 ·rfl
 ·exact r.h1
def RawTPart.R (x:PT) (r:RawTPart):Prop:=r.dev_ = x.dev
theorem RawTPart.raw (w:World) (S:Nat -> Prop) (x:PT) (us:List Value) (hl:us.length = 2) (h:∀ (j:Nat) (d:DV) (u:Value),(PT.e x)[j]? = some d -> us[j]? = some u -> DRd w S d u):∃ r:RawTPart,r.v = us /\ RawTPart.R x r:=by
 match us,hl with
 | [u0,u1],_=>
  refine ⟨⟨x.dev,u1,(h 1 _ u1 rfl rfl).one⟩,?_,rfl⟩;have e0:=h 0 _ u0 rfl rfl
  cases e0
  rfl
def yNa (x y:RawTPart):Int:=Lib.compareInt x.dev_ y.dev_
theorem uca (x y:RawTPart) (W:World):Calls Tryz.prog 153 #[.agg #[.int .u16 x.dev_,x.c1],.agg #[.int .u16 y.dev_,y.c1]] W fun e w'=>e = .returned (.int .i64 (yNa x y)) /\ ∃ q os',w' = grow (W.drewN q) os':=by
 have c1:=fun W'=>uWa x.dev_ y.dev_ W'
 unfold yNa
 generalize Lib.compareInt x.dev_ y.dev_ = r1 at c1 ⊢
 go_enter Tryz.func153,Tryz.ntmps153
 go_wp2_with (go_at_call 112;refine (c1 _).mono ?_;rintro e w' ⟨rfl,rfl⟩)
 go_ret
 exact ⟨rfl,0,_,by rw [alloc_eq_grow,alloc_eq_grow,grow_grow];rfl⟩
theorem Qr (x y:RawTPart):ltOf yNa x y = (fun x y:RawTPart=>decide (x.dev_ < y.dev_)) x y:=by
 unfold ltOf yNa Lib.compareInt ;rw [Bool.eq_iff_iff];simp only [decide_eq_true_eq,Bool.or_eq_true,Bool.and_eq_true]
 split <;> (repeat' split) <;> omega
theorem wda : SWO (ltOf yNa) where
 irrefl x:=by rw [Qr];simp []
 trans x y z h1 h2:=by rw [Qr] at *;simp [] at *;omega
 ntrans x y z h1 h2:=by rw [Qr] at *;simp [] at *;omega
instance inhcf152 : Inhabited RawTPart:=⟨⟨0,.int .u64 0,rfl⟩⟩
theorem uda (blk off size:Nat) (w:World):CmpLays Tryz.prog 153 #[] RawTPart.v 2 yNa blk off size w:=fun _ _ _ _ x y=>uca x y _
set_option maxHeartbeats 2000000 in
set_option maxRecDepth 100000 in
theorem vda (blk off cap:Nat) (d:Array RawTPart) (w:World) (hH:HoldsK RawTPart.v 2 w blk off d) (hblk:blk < w.heap.size) (hsz:d.size < 4611686018427387904) :
  Calls Tryz.prog 152 #[.slice (some ⟨blk,off,none⟩) d.size cap,.func (.func 153) #[] #[]] w fun e w'=>e = .returned (.tuple #[]) /\ ∃ n os,w' = sortWorldK RawTPart.v 2 w blk off n (pdq (ltOf yNa) d 0 d.size (Lib.bitLen d.size) true true) os:=by
 have eg:∀ args w,(callFunc 153 args).run Tryz.prog w = .ok (.enter 153 args) w:=Tryz.call153;have e14:=Tryz.call176;have e15:=Tryz.call171;have hlim:Lib.bitLen d.size < 4611686018427387904:=Nat.lt_of_le_of_lt (Lib.bitLen_le d.size 62 (by omega) (by omega)) (by omega);have hp:=AnyQ.pdqsortCmpFunc_all Tryz.pdq176 2 Tryz.isAgg114 Tryz.sizeOf114 RawTPart.v yNa 153 #[] wda blk off cap d w eg (uda blk off d.size w) ⟨fun _=>rfl,RawTPart.v1,hH,hblk⟩ (d.size + 1) 0 d.size (Lib.bitLen d.size) d w (by omega) rfl (SWK.start hH) (Nat.zero_le _) (Nat.le_refl _) hsz hlim (Or.inl rfl)
 change Calls Tryz.prog 176 _ _ _ at hp
 have hl:Calls Tryz.prog 171 #[.int .u64 (d.size:Int)] w fun e w'=>e = .returned (.int .i64 (Lib.bitLen d.size:Nat)) /\ w' = w:=by
  have h:=Any.bits_Len (SlLaysF0.n15.bits Tryz.bits171) (d.size:Int) w (by omega) (by omega)
  rwa [Int.toNat_natCast] at h
 have wr:IntKind.u64.wrap (d.size:Int) = d.size:=by simp [IntKind.wrap,IntKind.bits,IntKind.signed];omega
 clear hH
 go_enter Tryz.func152,Tryz.ntmps152
 go_wp2_with (first | (go_at_call 171;refine hl.mono ?_;rintro e w' ⟨rfl,rfl⟩) | (go_at_call 176;refine hp.mono ?_;rintro e w' ⟨rfl,n,os,rfl⟩))
 go_end0
 exact ⟨rfl,n,os,rfl⟩
theorem xaa (w:World):Calls Tryz.prog 152 #[.slice none 0 0,.func (.func 153) #[] #[]] w fun e w'=>e = .returned (.tuple #[]) /\ Go.RowKit.Below w.heap.size w w':=by
 have e14:=Tryz.call176;have e15:=Tryz.call171;have hp:=fun lim W=>AnyF.pdqsortCmpFunc_none Tryz.pdq176 none 0 lim (.func (.func 153) #[] #[]) W
 have hl:∀ W,Calls Tryz.prog 171 #[.int .u64 0] W fun e w'=>e = .returned (.int .i64 (Lib.bitLen 0:Nat)) /\ w' = W:=fun W=>by
  have h:=Any.bits_Len (SlLaysF0.n15.bits Tryz.bits171) 0 W (by omega) (by omega);exact h
 go_enter Tryz.func152,Tryz.ntmps152
 go_wp2_with (first | (go_at_call 171;refine (hl _).mono ?_;rintro e w' ⟨rfl,rfl⟩) | (go_at_call 176;refine (hp _ _).mono ?_;rintro e w' ⟨rfl,rfl⟩))
 go_end0
 exact ⟨rfl,Go.RowKit.Below.refl _ _⟩
theorem vea : SortLaw Tryz.prog 152 153 2 RawTPart.v (fun x y:RawTPart=>decide (x.dev_ < y.dev_)):=SortLaw.of wda Qr (fun _=>rfl) xaa (fun blk off cap d w hH hblk hsz=>vda blk off cap d w hH hblk hsz)
theorem rlt152 (x y:PT) (r r':RawTPart) (h1:RawTPart.R x r) (h2:RawTPart.R y r'):((fun x y:RawTPart=>decide (x.dev_ < y.dev_))) r r' = qy x y:=by simp only [RawTPart.R] at h1 h2;simp [h1,h2,qy]
def yOa (x y:DT):Int:=if Lib.compareInt x.dev y.dev ≠ 0 then Lib.compareInt x.dev y.dev else Lib.compareInt x.n y.n
theorem uea (x y:DT) (W:World):Calls Tryz.prog 65 #[.agg #[.int .u16 x.dev,.int .u64 x.n],.agg #[.int .u16 y.dev,.int .u64 y.n]] W fun e w'=>e = .returned (.int .i64 (yOa x y)) /\ ∃ q os',w' = grow (W.drewN q) os':=by
 have c1:=fun W'=>uWa x.dev y.dev W'
 have c2:=fun W'=>uYa x.n y.n W'
 unfold yOa
 generalize Lib.compareInt x.dev y.dev = r1 at c1 ⊢
 generalize Lib.compareInt x.n y.n = r2 at c2 ⊢
 by_cases h:r1 = 0
 ·subst h
  go_enter Tryz.func65,Tryz.ntmps65
  go_wp2_with (first | (go_at_call 112;refine (c1 _).mono ?_;rintro e w' ⟨rfl,rfl⟩) | (go_at_call 113;refine (c2 _).mono ?_;rintro e w' ⟨rfl,rfl⟩))
  go_ret
  exact ⟨by simp,0,_,by rw [alloc_eq_grow,alloc_eq_grow,grow_grow];rfl⟩
 ·go_enter Tryz.func65,Tryz.ntmps65
  go_wp2_with (first | (go_at_call 112;refine (c1 _).mono ?_;rintro e w' ⟨rfl,rfl⟩) | (go_at_call 113;refine (c2 _).mono ?_;rintro e w' ⟨rfl,rfl⟩))
  go_ret
  exact ⟨by simp [h],0,_,by rw [alloc_eq_grow,alloc_eq_grow,grow_grow];rfl⟩
theorem Qs (x y:DT):ltOf yOa x y = zP x y:=by
 unfold ltOf yOa Lib.compareInt zP;rw [Bool.eq_iff_iff];simp only [decide_eq_true_eq,Bool.or_eq_true,Bool.and_eq_true]
 split <;> (repeat' split) <;> omega
theorem wea : SWO (ltOf yOa) where
 irrefl x:=by rw [Qs];simp [zP]
 trans x y z h1 h2:=by rw [Qs] at *;simp [zP] at *;omega
 ntrans x y z h1 h2:=by rw [Qs] at *;simp [zP] at *;omega
instance inhcf162 : Inhabited DT:=⟨⟨0,0⟩⟩
theorem ufa (blk off size:Nat) (w:World):CmpLays Tryz.prog 65 #[] DT.v 2 yOa blk off size w:=fun _ _ _ _ x y=>uea x y _
set_option maxHeartbeats 2000000 in
set_option maxRecDepth 100000 in
theorem vfa (blk off cap:Nat) (d:Array DT) (w:World) (hH:HoldsK DT.v 2 w blk off d) (hblk:blk < w.heap.size) (hsz:d.size < 4611686018427387904) :
  Calls Tryz.prog 162 #[.slice (some ⟨blk,off,none⟩) d.size cap,.func (.func 65) #[] #[]] w fun e w'=>e = .returned (.tuple #[]) /\ ∃ n os,w' = sortWorldK DT.v 2 w blk off n (pdq (ltOf yOa) d 0 d.size (Lib.bitLen d.size) true true) os:=by
 have eg:∀ args w,(callFunc 65 args).run Tryz.prog w = .ok (.enter 65 args) w:=Tryz.call65;have e14:=Tryz.call178;have e15:=Tryz.call171;have hlim:Lib.bitLen d.size < 4611686018427387904:=Nat.lt_of_le_of_lt (Lib.bitLen_le d.size 62 (by omega) (by omega)) (by omega);have hp:=AnyQ.pdqsortCmpFunc_all Tryz.pdq178 2 Tryz.isAgg87 Tryz.sizeOf87 DT.v yOa 65 #[] wea blk off cap d w eg (ufa blk off d.size w) ⟨fun _=>rfl,DT.v1,hH,hblk⟩ (d.size + 1) 0 d.size (Lib.bitLen d.size) d w (by omega) rfl (SWK.start hH) (Nat.zero_le _) (Nat.le_refl _) hsz hlim (Or.inl rfl)
 change Calls Tryz.prog 178 _ _ _ at hp
 have hl:Calls Tryz.prog 171 #[.int .u64 (d.size:Int)] w fun e w'=>e = .returned (.int .i64 (Lib.bitLen d.size:Nat)) /\ w' = w:=by
  have h:=Any.bits_Len (SlLaysF0.n15.bits Tryz.bits171) (d.size:Int) w (by omega) (by omega)
  rwa [Int.toNat_natCast] at h
 have wr:IntKind.u64.wrap (d.size:Int) = d.size:=by simp [IntKind.wrap,IntKind.bits,IntKind.signed];omega
 clear hH
 go_enter Tryz.func162,Tryz.ntmps162
 go_wp2_with (first | (go_at_call 171;refine hl.mono ?_;rintro e w' ⟨rfl,rfl⟩) | (go_at_call 178;refine hp.mono ?_;rintro e w' ⟨rfl,n,os,rfl⟩))
 go_end0
 exact ⟨rfl,n,os,rfl⟩
theorem xba (w:World):Calls Tryz.prog 162 #[.slice none 0 0,.func (.func 65) #[] #[]] w fun e w'=>e = .returned (.tuple #[]) /\ Go.RowKit.Below w.heap.size w w':=by
 have e14:=Tryz.call178;have e15:=Tryz.call171;have hp:=fun lim W=>AnyF.pdqsortCmpFunc_none Tryz.pdq178 none 0 lim (.func (.func 65) #[] #[]) W
 have hl:∀ W,Calls Tryz.prog 171 #[.int .u64 0] W fun e w'=>e = .returned (.int .i64 (Lib.bitLen 0:Nat)) /\ w' = W:=fun W=>by
  have h:=Any.bits_Len (SlLaysF0.n15.bits Tryz.bits171) 0 W (by omega) (by omega);exact h
 go_enter Tryz.func162,Tryz.ntmps162
 go_wp2_with (first | (go_at_call 171;refine (hl _).mono ?_;rintro e w' ⟨rfl,rfl⟩) | (go_at_call 178;refine (hp _ _).mono ?_;rintro e w' ⟨rfl,rfl⟩))
 go_end0
 exact ⟨rfl,Go.RowKit.Below.refl _ _⟩
theorem uga : SortLaw Tryz.prog 162 65 2 DT.v zP:=SortLaw.of wea Qs (fun _=>rfl) xba (fun blk off cap d w hH hblk hsz=>vfa blk off cap d w hH hblk hsz)
def yPa (x y:RN):Int:=Lib.compareInt x.lo y.lo
theorem uha (x y:RN) (W:World):Calls Tryz.prog 175 #[.agg #[.int .u64 x.lo,.int .u64 x.hi],.agg #[.int .u64 y.lo,.int .u64 y.hi]] W fun e w'=>e = .returned (.int .i64 (yPa x y)) /\ ∃ q os',w' = grow (W.drewN q) os':=by
 have c1:=fun W'=>uYa x.lo y.lo W'
 unfold yPa
 generalize Lib.compareInt x.lo y.lo = r1 at c1 ⊢
 go_enter Tryz.func175,Tryz.ntmps175
 go_wp2_with (go_at_call 113;refine (c1 _).mono ?_;rintro e w' ⟨rfl,rfl⟩)
 go_ret
 exact ⟨rfl,0,_,by rw [alloc_eq_grow,alloc_eq_grow,grow_grow];rfl⟩
theorem Qt (x y:RN):ltOf yPa x y = qa x y:=by
 unfold ltOf yPa Lib.compareInt qa;rw [Bool.eq_iff_iff];simp only [decide_eq_true_eq,Bool.or_eq_true,Bool.and_eq_true]
 split <;> (repeat' split) <;> omega
theorem wfa : SWO (ltOf yPa) where
 irrefl x:=by rw [Qt];simp [qa]
 trans x y z h1 h2:=by rw [Qt] at *;simp [qa] at *;omega
 ntrans x y z h1 h2:=by rw [Qt] at *;simp [qa] at *;omega
instance inhcf174 : Inhabited RN:=⟨⟨0,0⟩⟩
theorem uia (blk off size:Nat) (w:World):CmpLays Tryz.prog 175 #[] RN.v 2 yPa blk off size w:=fun _ _ _ _ x y=>uha x y _
set_option maxHeartbeats 2000000 in
set_option maxRecDepth 100000 in
theorem vga (blk off cap:Nat) (d:Array RN) (w:World) (hH:HoldsK RN.v 2 w blk off d) (hblk:blk < w.heap.size) (hsz:d.size < 4611686018427387904) :
  Calls Tryz.prog 174 #[.slice (some ⟨blk,off,none⟩) d.size cap,.func (.func 175) #[] #[]] w fun e w'=>e = .returned (.tuple #[]) /\ ∃ n os,w' = sortWorldK RN.v 2 w blk off n (pdq (ltOf yPa) d 0 d.size (Lib.bitLen d.size) true true) os:=by
 have eg:∀ args w,(callFunc 175 args).run Tryz.prog w = .ok (.enter 175 args) w:=Tryz.call175;have e14:=Tryz.call193;have e15:=Tryz.call171;have hlim:Lib.bitLen d.size < 4611686018427387904:=Nat.lt_of_le_of_lt (Lib.bitLen_le d.size 62 (by omega) (by omega)) (by omega);have hp:=AnyQ.pdqsortCmpFunc_all Tryz.pdq193 2 Tryz.isAgg119 Tryz.sizeOf119 RN.v yPa 175 #[] wfa blk off cap d w eg (uia blk off d.size w) ⟨fun _=>rfl,RN.v1,hH,hblk⟩ (d.size + 1) 0 d.size (Lib.bitLen d.size) d w (by omega) rfl (SWK.start hH) (Nat.zero_le _) (Nat.le_refl _) hsz hlim (Or.inl rfl)
 change Calls Tryz.prog 193 _ _ _ at hp
 have hl:Calls Tryz.prog 171 #[.int .u64 (d.size:Int)] w fun e w'=>e = .returned (.int .i64 (Lib.bitLen d.size:Nat)) /\ w' = w:=by
  have h:=Any.bits_Len (SlLaysF0.n15.bits Tryz.bits171) (d.size:Int) w (by omega) (by omega)
  rwa [Int.toNat_natCast] at h
 have wr:IntKind.u64.wrap (d.size:Int) = d.size:=by simp [IntKind.wrap,IntKind.bits,IntKind.signed];omega
 clear hH
 go_enter Tryz.func174,Tryz.ntmps174
 go_wp2_with (first | (go_at_call 171;refine hl.mono ?_;rintro e w' ⟨rfl,rfl⟩) | (go_at_call 193;refine hp.mono ?_;rintro e w' ⟨rfl,n,os,rfl⟩))
 go_end0
 exact ⟨rfl,n,os,rfl⟩
theorem xca (w:World):Calls Tryz.prog 174 #[.slice none 0 0,.func (.func 175) #[] #[]] w fun e w'=>e = .returned (.tuple #[]) /\ Go.RowKit.Below w.heap.size w w':=by
 have e14:=Tryz.call193;have e15:=Tryz.call171;have hp:=fun lim W=>AnyF.pdqsortCmpFunc_none Tryz.pdq193 none 0 lim (.func (.func 175) #[] #[]) W
 have hl:∀ W,Calls Tryz.prog 171 #[.int .u64 0] W fun e w'=>e = .returned (.int .i64 (Lib.bitLen 0:Nat)) /\ w' = W:=fun W=>by
  have h:=Any.bits_Len (SlLaysF0.n15.bits Tryz.bits171) 0 W (by omega) (by omega);exact h
 go_enter Tryz.func174,Tryz.ntmps174
 go_wp2_with (first | (go_at_call 171;refine (hl _).mono ?_;rintro e w' ⟨rfl,rfl⟩) | (go_at_call 193;refine (hp _ _).mono ?_;rintro e w' ⟨rfl,rfl⟩))
 go_end0
 exact ⟨rfl,Go.RowKit.Below.refl _ _⟩
theorem vha : SortLaw Tryz.prog 174 175 2 RN.v qa:=SortLaw.of wfa Qt (fun _=>rfl) xca (fun blk off cap d w hH hblk hsz=>vga blk off cap d w hH hblk hsz)
end Go.Proofs

