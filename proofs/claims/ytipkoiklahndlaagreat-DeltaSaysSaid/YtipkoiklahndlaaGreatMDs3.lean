/- Texts that the walks and laws lean on, side by side. -/
import Derived.Test.YtipkoiklahndlaaGreatProg
import Derived.Shelf.SlGeneric
import Derived.Shelf.SlLaysF0
import Derived.Ground.SlsfProg
import Derived.Shelf.SlSortCmp.WholeK
import Derived.Test.YtipkoiklahndlaaGreatMDs2
set_option linter.unusedVariables false
set_option linter.unusedSimpArgs false
namespace Go.Ep
open Go

def Yg (c1:List TPart):Int -> M (M.Step Int (M.Ex Unit Bool)):=fun i12=>
 cond ((decide (i12 < (List.length c1:Int))))
  (M.bind (M.idx c1 i12) fun x14=>
  cond ((decide (30 < (List.length x14.runs:Int))))
   (M.pure (.done (.ret false)))
   (M.pure (.next (IntKind.i64.wrap (i12 + 1)))))
  (M.pure (.done (.brk ())))
def Xk (c1:List TPart):M Bool:=
 cond ((decide (30 < (List.length c1:Int))))
  (M.pure false)
  (M.bind (M.loop (Yg c1) 0) (M.exk (fun _=>
  M.pure true)))

def Yh (l1:List TEvent):Int -> M (M.Step Int (M.Ex Unit Bool)):=fun i21=>
 cond ((decide (i21 < (List.length l1:Int))))
  (M.bind (M.bind (M.idx l1 i21) fun x24=>
  cond ((decide (300 < (List.length x24.kills:Int))))
   (M.pure true)
   (M.bind (M.idx l1 i21) fun x27=>
   M.pure ((decide (200 < (ByteArray.size x27.text:Int)))))) (fun v23=>
  cond v23
   (M.pure (.done (.ret false)))
   (M.pure (.next (IntKind.i64.wrap (i21 + 1))))))
  (M.pure (.done (.brk ())))
def Xl (l1:List TEvent) (most2:Int):M Bool:=
 cond ((decide (most2 < (List.length l1:Int))))
  (M.pure false)
  (M.bind (M.loop (Yh l1) 0) (M.exk (fun _=>
  M.pure true)))

def JV (d1:TDelta):M Bool:=
 M.bind (M.bind (M.det (Xk d1.from_)) fun v3=>
 cond v3
  (M.bind (M.det (Xk d1.to_)) fun v6=>
  cond v6
   (M.bind (M.det (Xl d1.events 30)) fun v9=>
   M.pure v9)
   (M.pure false))
  (M.pure false)) (fun v2=>
 M.pure v2)

def Yi (l1:List L18Act):Int -> M (M.Step Int (M.Ex Unit Int)):=fun i29=>
 cond ((decide (i29 < (List.length l1:Int))))
  (M.bind (M.bind (M.idx l1 i29) fun x32=>
  M.bind (M.det (Xl ([x32.event]) 1)) fun v34=>
  cond (!v34)
   (M.pure true)
   (M.bind (M.idx l1 i29) fun x37=>
   M.bind (M.det (Xk x37.ctx)) fun v39=>
   M.pure (!v39))) (fun v31=>
  cond v31
   (M.pure (.done (.ret 0)))
   (M.pure (.next (IntKind.i64.wrap (i29 + 1))))))
  (M.pure (.done (.brk ())))
def JW (l1:List L18Act) (most2:Int):M Int:=
 cond ((decide (most2 < (List.length l1:Int))))
  (M.pure 0)
  (M.bind (M.loop (Yi l1) 0) (M.exk (fun _=>
  M.pure 1)))

def xT (x1:Int):M Bool:=
 M.pure (!decide (x1 = x1))

def ye (x1:Int) (y2:Int):M Int:=
 M.bind (M.det (xT x1)) fun v3=>
 M.bind (M.det (xT y2)) fun v5=>
 cond v3
  (cond v5
   (M.pure 0)
   (M.pure (-1)))
  (cond v5
   (M.pure 1)
   (cond (decide (x1 < y2))
    (M.pure (-1))
    (cond (decide (y2 < x1))
     (M.pure 1)
     (M.pure 0))))

def vJ (l1:List TRun):Int × List TRun -> M (M.Step (Int × List TRun) (List TRun)):=fun ⟨v23,some24⟩=>
 cond ((decide (v23 < (List.length l1:Int))))
  (M.bind (M.bind (M.idx l1 v23) fun x27=>
  M.bind (cond (decide (0 < x27.lo))
   (cond (decide (x27.lo <= x27.hi))
    (M.pure (decide (x27.hi <= 281474976710655)))
    (M.pure false))
   (M.pure false)) (fun v29=>
  cond v29
   (M.need ((List.length some24 + List.length ([x27])) * 16 <= 140737488355328) <|
   M.pure (some24 ++ [x27]))
   (M.pure some24))) (fun some26=>
  M.pure (.next (((IntKind.i64.wrap (v23 + 1)),some26)))))
  (M.pure (.done some24))
def vK (some2:List TRun) (s34:List TRun):Int × List TRun -> M (M.Step (Int × List TRun) (List TRun)):=fun ⟨v69,out70⟩=>
 cond ((decide (v69 < ((List.length some2):Int))))
  (M.bind (M.bind (M.idx s34 v69) fun x73=>
  M.bind (cond ((decide (0 <= ((IntKind.i64.wrap (((List.length out70):Int) - 1))))))
   (M.bind (M.idx out70 ((IntKind.i64.wrap (((List.length out70):Int) - 1)))) fun x77=>
   M.pure ((decide (x73.lo <= (IntKind.u64.wrap (x77.hi + 1))))))
   (M.pure false)) (fun v75=>
  cond v75
   (M.bind (M.idx out70 ((IntKind.i64.wrap (((List.length out70):Int) - 1)))) fun x80=>
   M.bind (M.idx out70 ((IntKind.i64.wrap (((List.length out70):Int) - 1)))) fun x82=>
   M.pure ((List.set out70 ((Int.toNat ((IntKind.i64.wrap (((List.length out70):Int) - 1))))) (⟨x82.lo,(max x80.hi x73.hi)⟩:TRun))))
   (M.need ((List.length out70 + List.length ([x73])) * 16 <= 140737488355328) <|
   M.pure (out70 ++ [x73])))) (fun out72=>
  M.pure (.next (((IntKind.i64.wrap (v69 + 1)),out72)))))
  (M.pure (.done out70))
def yz (l1:List TRun):M (List TRun):=
 M.bind (M.loop (vJ l1) (0,([]:List TRun))) (fun some2=>
 M.need (List.length some2 < 4611686018427387904)<|M.bind (M.srt jZ some2) fun s34=>
 M.bind (M.loop (vK some2 s34) (0,([]:List TRun))) (fun out38=>
 M.pure out38))

def xU (x1:Int):M Bool:=
 M.pure (!decide (x1 = x1))

def yv (x1:Int) (y2:Int):M Int:=
 M.bind (M.det (xU x1)) fun v3=>
 M.bind (M.det (xU y2)) fun v5=>
 cond v3
  (cond v5
   (M.pure 0)
   (M.pure (-1)))
  (cond v5
   (M.pure 1)
   (cond (decide (x1 < y2))
    (M.pure (-1))
    (cond (decide (y2 < x1))
     (M.pure 1)
     (M.pure 0))))

def ua (m1:List (Int × List TRun)):List Nat × List TPart -> M (M.Step (List Nat × List TPart) (List TPart)):=fun ⟨seen28,c29⟩=>
 M.need (∀ i ∈ seen28,i < List.length m1)<|M.bind (M.nxt (List.length m1) seen28) fun o=>match o with
 | none=>
  M.pure (.done c29)
 | some j30=>
  M.bind (M.idx m1 (Int.ofNat j30)) fun kv34=>
  M.bind (M.det (yz kv34.2)) fun v36=>
  cond ((decide (0 < ((List.length v36):Int))))
   (M.need ((List.length c29 + List.length ([(⟨kv34.1,v36⟩:TPart)])) * 32 <= 140737488355328) <|
   M.pure (.next (((seen28 ++ [j30]),(c29 ++ [(⟨kv34.1,v36⟩:TPart)])))))
   (M.pure (.next ((seen28 ++ [j30]),c29)))
def xq (m1:List (Int × List TRun)):M (List TPart):=
 M.bind (M.loop (ua m1) ([],([]:List TPart))) (fun c3=>
 M.need (List.length c3 < 4611686018427387904)<|M.bind (M.srt jp c3) fun s41=>
 M.pure s41)

def zc (p:TPart):Option (Int × List TRun):=if 0 < p.dev then some (p.dev,p.runs) else none
def vX (c1:List TPart):M (List (Int × List TRun)):=
 M.need (AL.growOK 16 (List.length c1) (List.filterMap zc c1)) <|
 M.pure ((AL.grow ([]:List (Int × List TRun)) (List.filterMap zc c1)))

def vY (c1:List TPart):M (List TPart):=
 M.bind (M.det (vX c1)) fun v2=>
 M.bind (M.det (xq v2)) fun v5=>
 M.pure v5

def zq (s1:List TDot):M (List TDot):=
 M.bind (M.isNil s1) fun b2=>
 cond b2
  (M.pure ([]:List TDot))
  (M.need ((List.length ([]:List TDot) + List.length s1) * 16 <= 140737488355328) <|
  M.pure (([]:List TDot) ++ s1))

def yb (e1:TEvent):M TEvent:=
 M.bind (M.det (zq e1.kills)) fun v2=>
 M.pure (⟨e1.dot,e1.kind,e1.cid,e1.field,e1.text,v2⟩:TEvent)

def um (a1:TDot) (b2:TDot):M Int:=
 M.bind (M.det (yv a1.dev b2.dev)) fun v3=>
 cond (!decide (v3 = 0))
  (M.pure v3)
  (M.bind (M.det (ye a1.n b2.n)) fun v6=>
  M.pure v6)

def xH (d1:TDot):M Bool:=
 M.bind (cond (decide (0 < d1.dev))
  (cond (decide (0 < d1.n))
   (M.pure (decide (d1.n <= 281474976710655)))
   (M.pure false))
  (M.pure false)) (fun v2=>
 M.pure v2)

def zd (row1:List TDot) (k148:Int):Int × Int × List TDot -> M (M.Step (Int × Int × List TDot) (Int × List TDot)):=fun ⟨k197,k2_198,v199⟩=>
 cond ((decide (k2_198 < ((((List.length row1 - Int.toNat k148):Nat):Int)))))
  (M.bind (M.need ((0:Int) <= k2_198 /\ k2_198 < (((List.length row1 - Int.toNat k148):Nat):Int))<|M.bind (M.idx v199 ((((Int.toNat k148) + Int.toNat k2_198):Nat):Int)) fun x203=>
  M.need ((0:Int) <= (IntKind.i64.wrap (k2_198 - 1)) /\ (IntKind.i64.wrap (k2_198 - 1)) < (((List.length row1 - Int.toNat k148):Nat):Int))<|M.bind (M.idx v199 ((((Int.toNat k148) + Int.toNat (IntKind.i64.wrap (k2_198 - 1))):Nat):Int)) fun x207=>
  cond ((!(decide (x203.dev = x207.dev) && decide (x203.n = x207.n))))
   (M.need ((0:Int) <= k2_198 /\ k2_198 < (((List.length row1 - Int.toNat k148):Nat):Int))<|M.bind (M.idx v199 ((((Int.toNat k148) + Int.toNat k2_198):Nat):Int)) fun x212=>
   M.bind (M.idx v199 k197) fun x216=>
   M.pure (((IntKind.i64.wrap (k197 + 1)),(List.set v199 (Int.toNat k197) x212))))
   (M.pure (k197,v199))) (fun ⟨k201,v202⟩=>
  M.pure (.next ((k201,(IntKind.i64.wrap (k2_198 + 1)),v202)))))
  (M.pure (.done (k197,v199)))
def ze (row1:List TDot):Int -> M (M.Step Int (M.Ex Unit (List TDot))):=fun k148=>
 cond ((decide (k148 < ((List.length row1):Int))))
  (M.bind (M.bind (M.idx row1 k148) fun x150=>
  M.bind (M.idx row1 (IntKind.i64.wrap (k148 - 1))) fun x152=>
  cond (((decide (x150.dev = x152.dev) && decide (x150.n = x152.n))))
   (M.need ((0:Int) <= k148 /\ k148 <= (List.length row1:Int)) <|
   M.bind (M.loop (zd row1 k148) (k148,1,row1)) (fun ⟨k156,v157⟩=>
   M.need ((0:Int) <= k156 /\ k156 <= (List.length v157:Int)) <|
   M.need ((Int.toNat k156) + (List.length v157 - Int.toNat k156) <= List.length v157) <|
   M.need ((0:Int) <= 0 /\ (0:Int) <= k156 /\ k156 <= (List.length ((List.take (Int.toNat k156) v157 ++ List.replicate (List.length v157 - Int.toNat k156) (⟨0,0⟩:TDot) ++ List.drop ((Int.toNat k156) + (List.length v157 - Int.toNat k156)) v157)):Int)) <|
   M.pure (.ret ((.done ((.ret (((List.take (Int.toNat k156) ((List.take (Int.toNat k156) v157 ++ List.replicate (List.length v157 - Int.toNat k156) (⟨0,0⟩:TDot) ++ List.drop ((Int.toNat k156) + (List.length v157 - Int.toNat k156)) v157))))))))))))
   (M.pure (.brk ()))) (M.exk (fun _=>
  M.pure (.next (IntKind.i64.wrap (k148 + 1))))))
  (M.pure (.done (.brk ())))
def zk (row1:List TDot):M (List TDot):=
 cond ((decide (((List.length row1):Int) < 2)))
  (M.pure row1)
  (M.bind (M.loop (ze row1) 1) (M.exk (fun _=>
  M.pure row1)))

def WM (l1:List TDot):M (List TDot):=
 M.bind (M.det (zq l1)) fun v2=>
 M.need (List.length v2 < 4611686018427387904)<|M.bind (M.srt zM v2) fun s4=>
 M.bind (M.det (zk s4)) fun y8=>
 M.pure y8

def Yj :M (List TPart × Bool × (List (TDot × TEvent)) × Bool × (List (TDot × TEvent))):=
 M.pure ((([]:List TPart),true,([]:List (TDot × TEvent)),true,([]:List (TDot × TEvent))))

def yG (ctx_1:List TPart) (nl2:Bool) (m3:List (TDot × TEvent)) (nl4:Bool) (m5:List (TDot × TEvent)):M (List TPart):=
 M.bind (M.det (vY ctx_1)) fun v6=>
 M.pure v6

def YK (m2:List (TDot × TEvent)):List Nat × List TEvent -> M (M.Step (List Nat × List TEvent) (List TEvent)):=fun ⟨seen32,out33⟩=>
 M.need (∀ i ∈ seen32,i < List.length m2)<|M.bind (M.nxt (List.length m2) seen32) fun o=>match o with
 | none=>
  M.pure (.done out33)
 | some j34=>
  M.bind (M.idx m2 (Int.ofNat j34)) fun kv38=>
  M.bind (M.det (yb kv38.2)) fun v40=>
  M.need ((List.length out33 + List.length ([v40])) * 80 <= 140737488355328) <|
  M.pure (.next ((seen32 ++ [j34]),(out33 ++ [v40])))
def YL (m4:List (TDot × TEvent)):List Nat × List TEvent -> M (M.Step (List Nat × List TEvent) (List TEvent)):=fun ⟨seen70,out71⟩=>
 M.need (∀ i ∈ seen70,i < List.length m4)<|M.bind (M.nxt (List.length m4) seen70) fun o=>match o with
 | none=>
  M.pure (.done out71)
 | some j72=>
  M.bind (M.idx m4 (Int.ofNat j72)) fun kv76=>
  M.bind (M.det (yb kv76.2)) fun v78=>
  M.need ((List.length out71 + List.length ([v78])) * 80 <= 140737488355328) <|
  M.pure (.next ((seen70 ++ [j72]),(out71 ++ [v78])))
def ub (nl1:Bool) (m2:List (TDot × TEvent)) (nl3:Bool) (m4:List (TDot × TEvent)):M (List TEvent):=
 M.bind (M.bind (M.loop (YK m2) ([],([]:List TEvent))) (fun out8=>
 M.bind (M.loop (YL m4) ([],out8)) (fun out46=>
 M.pure out46))) (fun out5=>
 M.need (List.length out5 < 4611686018427387904)<|M.bind (M.srt ZU out5) fun s82=>
 M.pure s82)

def yT (ctx_1:List TPart) (nl2:Bool) (m3:List (TDot × TEvent)) (nl4:Bool) (m5:List (TDot × TEvent)):M (List TEvent):=
 M.bind (M.det (ub nl2 m3 nl4 m5)) fun y6=>
 M.pure y6

def vZ (d1:TDot):M Bool:=
 M.bind (cond (decide (1 <= d1.dev))
  (cond (decide (1 <= d1.n))
   (M.pure (decide (d1.n < 281474976710656)))
   (M.pure false))
  (M.pure false)) (fun v2=>
 M.pure v2)

def Ue (x1:TRun):M Bool:=
 M.bind (cond (decide (1 <= x1.lo))
  (cond (decide (x1.lo <= x1.hi))
   (M.pure (decide (x1.hi <= 281474976710655)))
   (M.pure false))
  (M.pure false)) (fun v2=>
 M.pure v2)

def Yk (l1:List TRun) (n2:Int):Int -> M (M.Step Int (M.Ex Unit Bool)):=fun i30=>
 cond ((decide (i30 < (List.length l1:Int))))
  (M.bind (M.bind (M.idx l1 i30) fun x33=>
  M.bind (M.det (Ue x33)) fun v35=>
  cond v35
   (M.bind (M.idx l1 i30) fun x38=>
   cond (decide (x38.lo <= n2))
    (M.bind (M.idx l1 i30) fun x41=>
    M.pure (decide (n2 <= x41.hi)))
    (M.pure false))
   (M.pure false)) (fun v32=>
  cond v32
   (M.pure (.done (.ret true)))
   (M.pure (.next (IntKind.i64.wrap (i30 + 1))))))
  (M.pure (.done (.brk ())))
def VH (l1:List TRun) (n2:Int):M Bool:=
 M.bind (M.loop (Yk l1 n2) 0) (M.exk (fun _=>
 M.pure false))

def Yl (l1:List Int) (n2:Int):Bool × Int × List Int -> M (M.Step (Bool × Int × List Int) (Bool × List Int)):=fun ⟨done43,i44,out45⟩=>
 cond ((decide (i44 < (List.length l1:Int))))
  (M.bind (M.bind (cond (!done43)
   (M.bind (M.idx l1 i44) fun x51=>
   M.pure (decide (n2 <= x51)))
   (M.pure false)) (fun v49=>
  M.bind (cond v49
   (M.need ((List.length out45 + List.length ([n2])) * 8 <= 140737488355328) <|
   M.pure (true,(out45 ++ [n2])))
   (M.pure (done43,out45))) (fun ⟨done53,out54⟩=>
  M.bind (M.idx l1 i44) fun x57=>
  cond (!decide (x57 = n2))
   (M.bind (M.idx l1 i44) fun x60=>
   M.need ((List.length out54 + List.length ([x60])) * 8 <= 140737488355328) <|
   M.pure (done53,(out54 ++ [x60])))
   (M.pure (done53,out54))))) (fun ⟨done47,out48⟩=>
  M.pure (.next ((done47,(IntKind.i64.wrap (i44 + 1)),out48)))))
  (M.pure (.done (done43,out45)))
def Uf (l1:List Int) (n2:Int):M (List Int):=
 M.bind (M.loop (Yl l1 n2) (false,0,([]:List Int))) (fun ⟨done3,out4⟩=>
 M.bind (cond (!done3)
  (M.need ((List.length out4 + List.length ([n2])) * 8 <= 140737488355328) <|
  M.pure (out4 ++ [n2]))
  (M.pure out4)) (fun out63=>
 M.pure out63))

def va (a1:List TRun) (b2:List TRun):List Int × Int -> M (M.Step (List Int × Int) (List Int)):=fun ⟨out38,i39⟩=>
 cond ((decide (i39 < (((List.length ((([]:List TRun) ++ a1) ++ b2)):Int)))))
  (M.bind (M.bind (M.idx (((([]:List TRun) ++ a1) ++ b2)) i39) fun x42=>
  M.bind (M.det (Ue x42)) fun v44=>
  cond v44
   (M.bind (M.idx (((([]:List TRun) ++ a1) ++ b2)) i39) fun x47=>
   M.bind (M.det (Uf out38 x47.lo)) fun v49=>
   M.bind (M.idx (((([]:List TRun) ++ a1) ++ b2)) i39) fun x51=>
   M.bind (M.det (Uf v49 (IntKind.u64.wrap (x51.hi + 1)))) fun v53=>
   M.pure v53)
   (M.pure out38)) (fun out41=>
  M.pure (.next ((out41,(IntKind.i64.wrap (i39 + 1)))))))
  (M.pure (.done out38))
def Ym (a1:List TRun) (b2:List TRun):M (List Int):=
 M.need ((List.length ([]:List TRun) + List.length a1) * 16 <= 140737488355328) <|
 M.need ((List.length (([]:List TRun) ++ a1) + List.length b2) * 16 <= 140737488355328) <|
 M.bind (M.loop (va a1 b2) (([]:List Int),0)) (fun out5=>
 M.pure out5)

def Yn (v4:List Int) (a1:List TRun) (b2:List TRun) (how3:Int):Int × List TRun -> M (M.Step (Int × List TRun) (List TRun)):=fun ⟨i85,out86⟩=>
 cond ((decide ((IntKind.i64.wrap (i85 + 1)) < (List.length v4:Int))))
  (M.bind (M.bind (M.idx v4 i85) fun x89=>
  M.bind (M.det (VH a1 x89)) fun v91=>
  M.bind (M.idx v4 i85) fun x93=>
  M.bind (M.det (VH b2 x93)) fun v95=>
  M.bind (cond v91
   (M.pure true)
   (M.pure v95)) (fun in97=>
  M.bind (cond (decide (how3 = 1))
   (M.bind (cond v91
    (M.pure v95)
    (M.pure false)) (fun in101=>
   M.pure in101))
   (M.pure in97)) (fun in99=>
  M.bind (cond (decide (how3 = 2))
   (M.bind (cond v91
    (M.pure (!v95))
    (M.pure false)) (fun in105=>
   M.pure in105))
   (M.pure in99)) (fun in103=>
  M.bind (cond in103
   (cond ((decide (0 <= ((IntKind.i64.wrap (((List.length out86):Int) - 1))))))
    (M.bind (M.idx out86 ((IntKind.i64.wrap (((List.length out86):Int) - 1)))) fun x110=>
    M.bind (M.idx v4 i85) fun x112=>
    M.pure ((decide ((IntKind.u64.wrap (x110.hi + 1)) = x112))))
    (M.pure false))
   (M.pure false)) (fun v107=>
  cond v107
   (M.bind (M.idx v4 (IntKind.i64.wrap (i85 + 1))) fun x115=>
   M.bind (M.idx out86 ((IntKind.i64.wrap (((List.length out86):Int) - 1)))) fun x117=>
   M.pure ((List.set out86 ((Int.toNat ((IntKind.i64.wrap (((List.length out86):Int) - 1))))) ((⟨x117.lo,(IntKind.u64.wrap (x115 - 1))⟩:TRun)))))
   (cond in103
    (M.bind (M.idx v4 i85) fun x120=>
    M.bind (M.idx v4 (IntKind.i64.wrap (i85 + 1))) fun x122=>
    M.need ((List.length out86 + List.length ([(⟨x120,(IntKind.u64.wrap (x122 - 1))⟩:TRun)])) * 16 <= 140737488355328) <|
    M.pure ((out86 ++ [(⟨x120,(IntKind.u64.wrap (x122 - 1))⟩:TRun)])))
    (M.pure out86))))))) (fun out88=>
  M.pure (.next (((IntKind.i64.wrap (i85 + 1)),out88)))))
  (M.pure (.done out86))
def VI (a1:List TRun) (b2:List TRun) (how3:Int):M (List TRun):=
 M.bind (M.det (Ym a1 b2)) fun v4=>
 M.bind (M.loop (Yn v4 a1 b2 how3) (0,([]:List TRun))) (fun out6=>
 M.pure out6)

def WN (a1:List TRun) (b2:List TRun):M (List TRun):=
 M.bind (M.det (VI a1 b2 0)) fun v3=>
 M.pure v3

def ZV (c1:List TPart) (dev2:Int):List TRun × Int -> M (M.Step (List TRun × Int) (List TRun)):=fun ⟨out28,i29⟩=>
 cond ((decide (i29 < (List.length c1:Int))))
  (M.bind (M.bind (M.bind (M.idx c1 i29) fun x33=>
  cond (decide (x33.dev = dev2))
   (M.pure (!decide (dev2 = 0)))
   (M.pure false)) (fun v32=>
  cond v32
   (M.bind (M.idx c1 i29) fun x37=>
   M.bind (M.det (WN out28 x37.runs)) fun v39=>
   M.pure v39)
   (M.pure out28))) (fun out31=>
  M.pure (.next ((out31,(IntKind.i64.wrap (i29 + 1)))))))
  (M.pure (.done out28))
def Yo (c1:List TPart) (dev2:Int):M (List TRun):=
 M.bind (M.loop (ZV c1 dev2) (([]:List TRun),0)) (fun out3=>
 M.pure out3)

def wi (c1:List TPart) (d2:TDot):M Bool:=
 M.bind (M.bind (M.det (vZ d2)) fun v4=>
 cond v4
  (M.bind (M.det (Yo c1 d2.dev)) fun v7=>
  M.bind (M.det (VH v7 d2.n)) fun v9=>
  M.pure v9)
  (M.pure false)) (fun v3=>
 M.pure v3)

def ZW (a1:TDot) (b2:TDot):M Int:=
 cond (((decide (a1.dev = b2.dev) && decide (a1.n = b2.n))))
  (M.pure 0)
  (M.bind (cond (decide (a1.dev < b2.dev))
   (M.pure true)
   (cond (decide (a1.dev = b2.dev))
    (M.pure (decide (a1.n < b2.n)))
    (M.pure false))) (fun v4=>
  cond v4
   (M.pure (-1))
   (M.pure 1)))

def Yp (l1:List TDot) (d2:TDot):Int × List TDot -> M (M.Step (Int × List TDot) (List TDot)):=fun ⟨i26,out27⟩=>
 cond ((decide (i26 < (List.length l1:Int))))
  (M.bind (M.bind (M.idx l1 i26) fun x30=>
  M.bind (M.det (ZW x30 d2)) fun v32=>
  cond (decide (v32 < 0))
   (M.bind (M.idx l1 i26) fun x35=>
   M.need ((List.length out27 + List.length ([x35])) * 16 <= 140737488355328) <|
   M.pure (out27 ++ [x35]))
   (M.pure out27)) (fun out29=>
  M.pure (.next (((IntKind.i64.wrap (i26 + 1)),out29)))))
  (M.pure (.done out27))
def uy (l1:List TDot) (d2:TDot):Int × List TDot -> M (M.Step (Int × List TDot) (List TDot)):=fun ⟨i62,out63⟩=>
 cond ((decide (i62 < (List.length l1:Int))))
  (M.bind (M.bind (M.idx l1 i62) fun x66=>
  M.bind (M.det (ZW x66 d2)) fun v68=>
  cond (decide (0 < v68))
   (M.bind (M.idx l1 i62) fun x71=>
   M.need ((List.length out63 + List.length ([x71])) * 16 <= 140737488355328) <|
   M.pure (out63 ++ [x71]))
   (M.pure out63)) (fun out65=>
  M.pure (.next (((IntKind.i64.wrap (i62 + 1)),out65)))))
  (M.pure (.done out63))
def un (l1:List TDot) (d2:TDot):M (List TDot):=
 M.bind (M.loop (Yp l1 d2) (0,([]:List TDot))) (fun out3=>
 M.need ((List.length out3 + List.length ([d2])) * 16 <= 140737488355328) <|
 M.bind (M.loop (uy l1 d2) (0,(out3 ++ [d2]))) (fun out39=>
 M.pure out39))

def ZX (a1:List TPart):List TDot × Int -> M (M.Step (List TDot × Int) (List TDot)):=fun ⟨out16,i17⟩=>
 cond ((decide (i17 < (List.length a1:Int))))
  (M.bind (M.idx a1 i17) fun x19=>
  M.bind (M.det (un out16 (⟨x19.dev,1⟩:TDot))) fun v21=>
  M.pure (.next ((v21,(IntKind.i64.wrap (i17 + 1))))))
  (M.pure (.done out16))
def vz (b2:List TPart):List TDot × Int -> M (M.Step (List TDot × Int) (List TDot)):=fun ⟨out36,i37⟩=>
 cond ((decide (i37 < (List.length b2:Int))))
  (M.bind (M.idx b2 i37) fun x39=>
  M.bind (M.det (un out36 (⟨x39.dev,1⟩:TDot))) fun v41=>
  M.pure (.next ((v41,(IntKind.i64.wrap (i37 + 1))))))
  (M.pure (.done out36))
def Vr (a1:List TPart) (b2:List TPart):M (List TDot):=
 M.bind (M.loop (ZX a1) (([]:List TDot),0)) (fun out3=>
 M.bind (M.loop (vz b2) (out3,0)) (fun out23=>
 M.pure out23))

def Vs (a1:List TRun) (b2:List TRun):M (List TRun):=
 M.bind (M.det (VI a1 b2 1)) fun v3=>
 M.pure v3

def WO (a1:List TRun) (b2:List TRun):M (List TRun):=
 M.bind (M.det (VI a1 b2 2)) fun v3=>
 M.pure v3

def Yq (v4:List TDot) (a1:List TPart) (b2:List TPart) (how3:Int):Int × List TPart -> M (M.Step (Int × List TPart) (List TPart)):=fun ⟨i57,out58⟩=>
 cond ((decide (i57 < (List.length v4:Int))))
  (M.bind (M.bind (M.idx v4 i57) fun x61=>
  M.bind (M.det (Yo a1 x61.dev)) fun v63=>
  M.bind (M.idx v4 i57) fun x65=>
  M.bind (M.det (Yo b2 x65.dev)) fun v67=>
  M.bind (M.det (WN v63 v67)) fun v69=>
  M.bind (cond (decide (how3 = 1))
   (M.bind (M.det (Vs v63 v67)) fun v73=>
   M.pure v73)
   (M.pure v69)) (fun z71=>
  M.bind (cond (decide (how3 = 2))
   (M.bind (M.det (WO v63 v67)) fun v77=>
   M.pure v77)
   (M.pure z71)) (fun z75=>
  cond ((decide (0 < (List.length z75:Int))))
   (M.bind (M.idx v4 i57) fun x80=>
   M.need ((List.length out58 + List.length ([(⟨x80.dev,z75⟩:TPart)])) * 32 <= 140737488355328) <|
   M.pure (out58 ++ [(⟨x80.dev,z75⟩:TPart)]))
   (M.pure out58)))) (fun out60=>
  M.pure (.next (((IntKind.i64.wrap (i57 + 1)),out60)))))
  (M.pure (.done out58))
def Xm (a1:List TPart) (b2:List TPart) (how3:Int):M (List TPart):=
 M.bind (M.det (Vr a1 b2)) fun v4=>
 M.bind (M.loop (Yq v4 a1 b2 how3) (0,([]:List TPart))) (fun out6=>
 M.pure out6)

def ZY (a1:List TPart) (b2:List TPart):M (List TPart):=
 M.bind (M.det (Xm a1 b2 0)) fun v3=>
 M.pure v3

def WP (l1:List TDot):List TPart × Int -> M (M.Step (List TPart × Int) (List TPart)):=fun ⟨out35,i36⟩=>
 cond ((decide (i36 < (List.length l1:Int))))
  (M.bind (M.bind (M.idx l1 i36) fun x39=>
  M.bind (M.det (vZ x39)) fun v41=>
  cond v41
   (M.bind (M.idx l1 i36) fun x44=>
   M.bind (M.idx l1 i36) fun x46=>
   M.bind (M.idx l1 i36) fun x48=>
   M.bind (M.det (ZY out35 ([(⟨x44.dev,[(⟨x46.n,x48.n⟩:TRun)]⟩:TPart)]))) fun v50=>
   M.pure v50)
   (M.pure out35)) (fun out38=>
  M.pure (.next ((out38,(IntKind.i64.wrap (i36 + 1)))))))
  (M.pure (.done out35))
def z4a (l1:List TDot):M (List TPart):=
 M.bind (M.loop (WP l1) (([]:List TPart),0)) (fun out2=>
 M.pure out2)

def Yr (l1:List TDot) (d2:TDot):Int -> M (M.Step Int (M.Ex Unit Bool)):=fun i12=>
 cond ((decide (i12 < (List.length l1:Int))))
  (M.bind (M.idx l1 i12) fun x14=>
  cond (((decide (x14.dev = d2.dev) && decide (x14.n = d2.n))))
   (M.pure (.done (.ret true)))
   (M.pure (.next (IntKind.i64.wrap (i12 + 1)))))
  (M.pure (.done (.brk ())))
def Xn (l1:List TDot) (d2:TDot):M Bool:=
 M.bind (M.loop (Yr l1 d2) 0) (M.exk (fun _=>
 M.pure false))

def WQ (v1:Int):M (Int × Int):=
 M.pure (((IntKind.u16.wrap (IntKind.u64.wrap (Int.tdiv v1 281474976710656))),(Int.tmod v1 281474976710656)))

def Ys (v1:Int):M (TDot × Bool):=
 M.bind (M.det (WQ v1)) fun v2=>
 M.bind (M.det (vZ (⟨v2.1,v2.2⟩:TDot))) fun v4=>
 cond (!v4)
  (M.pure ((⟨0,0⟩:TDot),false))
  (M.pure ((⟨v2.1,v2.2⟩:TDot),true))

def Vt (f1:Int):M Bool:=
 M.bind (cond (decide (1 <= f1))
  (M.pure (decide (f1 <= 5)))
  (M.pure false)) (fun v2=>
 M.pure v2)

def uA (s1:ByteArray):Int -> M (M.Step Int (M.Ex Unit Bool)):=fun i19=>
 cond ((decide (i19 < (ByteArray.size s1:Int))))
  (M.bind (M.bind (M.idx (xe s1) i19) fun b22=>
  cond (decide (b22 < 32))
   (M.pure true)
   (M.bind (M.idx (xe s1) i19) fun b25=>
   M.pure (decide (126 < b25)))) (fun v21=>
  cond v21
   (M.pure (.done (.ret false)))
   (M.pure (.next (IntKind.i64.wrap (i19 + 1))))))
  (M.pure (.done (.brk ())))
def Vu (s1:ByteArray):M Bool:=
 M.bind (M.loop (uA s1) 0) (M.exk (fun _=>
 M.pure ((decide ((ByteArray.size s1:Int) <= 60)))))

def xI (l1:List TDot):Int -> M (M.Step Int (M.Ex Unit Bool)):=fun i19=>
 cond ((decide (i19 < (List.length l1:Int))))
  (M.bind (M.idx l1 (IntKind.i64.wrap (i19 - 1))) fun x21=>
  M.bind (M.idx l1 i19) fun x23=>
  M.bind (M.det (ZW x21 x23)) fun v25=>
  cond (decide (0 <= v25))
   (M.pure (.done (.ret false)))
   (M.pure (.next (IntKind.i64.wrap (i19 + 1)))))
  (M.pure (.done (.brk ())))
def Yt (l1:List TDot):M Bool:=
 M.bind (M.loop (xI l1) 1) (M.exk (fun _=>
 M.pure true))

def uB (e1:TEvent):Int -> M (M.Step Int (M.Ex Unit Bool)):=fun i37=>
 cond ((decide (i37 < (List.length e1.kills:Int))))
  (M.bind (M.idx e1.kills i37) fun x39=>
  M.bind (M.det (vZ x39)) fun v41=>
  cond (!v41)
   (M.pure (.done (.ret false)))
   (M.pure (.next (IntKind.i64.wrap (i37 + 1)))))
  (M.pure (.done (.brk ())))
def Yu (e1:TEvent):M Bool:=
 M.bind (M.det (Ys e1.cid)) fun v2=>
 M.bind (cond (!v2.2)
  (M.pure true)
  (M.bind (M.det (vZ e1.dot)) fun v6=>
  cond (!v6)
   (M.pure true)
   (cond (!decide (e1.kind = 1))
    (M.pure (!decide (e1.kind = 2)))
    (M.pure false)))) (fun v4=>
 cond v4
  (M.pure false)
  (M.bind (cond (decide (e1.kind = 1))
   (M.bind (M.det (Vt e1.field)) fun v13=>
   cond (!v13)
    (M.pure true)
    (M.bind (M.det (Vu e1.text)) fun v16=>
    cond (!v16)
     (M.pure true)
     (cond (decide (e1.kind = 2))
      (cond (!decide (e1.field = 0))
       (M.pure true)
       (M.pure ((!decide (e1.text = (⟨#[]⟩:ByteArray))))))
      (M.pure false))))
   (cond (decide (e1.kind = 2))
    (cond (!decide (e1.field = 0))
     (M.pure true)
     (M.pure ((!decide (e1.text = (⟨#[]⟩:ByteArray))))))
    (M.pure false))) (fun v11=>
  cond v11
   (M.pure false)
   (M.bind (M.loop (uB e1) 0) (M.exk (fun _=>
   M.bind (cond ((decide ((List.length e1.kills:Int) <= 256)))
    (M.bind (M.det (Yt e1.kills)) fun v46=>
    cond v46
     (M.bind (M.det (Xn e1.kills e1.dot)) fun v49=>
     M.pure (!v49))
     (M.pure false))
    (M.pure false)) (fun v44=>
   M.pure v44)))))))

def uC (l1:List TEvent) (i80:Int):List TDot × Int -> M (M.Step (List TDot × Int) (List TDot)):=fun ⟨out107,k108⟩=>
 M.bind (M.idx l1 i80) fun x109=>
 cond ((decide (k108 < (List.length x109.kills:Int))))
  (M.bind (M.idx l1 i80) fun x112=>
  M.bind (M.idx x112.kills k108) fun x114=>
  M.bind (M.det (un out107 x114)) fun v116=>
  M.pure (.next ((v116,(IntKind.i64.wrap (k108 + 1))))))
  (M.pure (.done out107))
def ZZ (l1:List TEvent):List TDot × Int -> M (M.Step (List TDot × Int) (List TDot)):=fun ⟨out79,i80⟩=>
 cond ((decide (i80 < (List.length l1:Int))))
  (M.bind (M.bind (M.idx l1 i80) fun x83=>
  M.bind (M.det (un out79 x83.dot)) fun v85=>
  M.loop (uC l1 i80) (v85,0)) (fun out82=>
  M.pure (.next ((out82,(IntKind.i64.wrap (i80 + 1)))))))
  (M.pure (.done out79))
def Za (l1:List TEvent):M (List TDot):=
 M.bind (M.loop (ZZ l1) (([]:List TDot),0)) (fun out2=>
 M.pure out2)

def uz (l1:List TEvent) (e2:TEvent):Bool × Int × List TEvent -> M (M.Step (Bool × Int × List TEvent) (M.Ex (Bool × List TEvent) (List TEvent))):=fun ⟨done38,i39,out40⟩=>
 cond ((decide (i39 < (List.length l1:Int))))
  (M.bind (M.idx l1 i39) fun x42=>
  M.bind (M.det (ZW x42.dot e2.dot)) fun v44=>
  cond (decide (v44 = 0))
   (M.pure (.done (.ret l1)))
   (M.bind (cond (decide (0 < v44))
    (M.pure (!done38))
    (M.pure false)) (fun v47=>
   M.bind (cond v47
    (M.need ((List.length out40 + List.length ([e2])) * 80 <= 140737488355328) <|
    M.pure (true,(out40 ++ [e2])))
    (M.pure (done38,out40))) (fun ⟨done49,out50⟩=>
   M.bind (M.idx l1 i39) fun x53=>
   M.need ((List.length out50 + List.length ([x53])) * 80 <= 140737488355328) <|
   M.pure (.next ((done49,(IntKind.i64.wrap (i39 + 1)),(out50 ++ [x53]))))))))
  (M.pure (.done (.brk (done38,out40))))
def JX (l1:List TEvent) (e2:TEvent):M (List TEvent):=
 M.bind (M.loop (uz l1 e2) (false,0,([]:List TEvent))) (M.exk (fun ⟨done3,out4⟩=>
 M.bind (cond (!done3)
  (M.need ((List.length out4 + List.length ([e2])) * 80 <= 140737488355328) <|
  M.pure (out4 ++ [e2]))
  (M.pure out4)) (fun out56=>
 M.pure out56)))

def ZA (b1:R18Book) (e2:TEvent):Int × List TEvent -> M (M.Step (Int × List TEvent) (List TEvent)):=fun ⟨i40,l41⟩=>
 cond ((decide (i40 < (List.length b1.l:Int))))
  (M.bind (M.bind (M.bind (M.idx b1.l i40) fun x45=>
  cond (!decide (x45.kind = 1))
   (M.pure true)
   (M.bind (M.idx b1.l i40) fun x48=>
   M.bind (M.det (Xn e2.kills x48.dot)) fun v50=>
   M.pure (!v50))) (fun v44=>
  cond v44
   (M.bind (M.idx b1.l i40) fun x53=>
   M.need ((List.length l41 + List.length ([x53])) * 80 <= 140737488355328) <|
   M.pure (l41 ++ [x53]))
   (M.pure l41))) (fun l43=>
  M.pure (.next (((IntKind.i64.wrap (i40 + 1)),l43)))))
  (M.pure (.done l41))
def uo (b1:R18Book) (e2:TEvent):M (R18Book × Int):=
 M.bind (M.det (Yu e2)) fun v3=>
 cond (!v3)
  (M.pure (b1,1))
  (M.bind (M.det (wi b1.ctx e2.dot)) fun v6=>
  cond v6
   (M.pure (b1,7))
   (M.bind (M.loop (ZA b1 e2) (0,([]:List TEvent))) (fun l9=>
   M.bind (M.det (Za ([e2]))) fun v56=>
   M.bind (M.det (z4a v56)) fun v58=>
   M.bind (M.det (ZY b1.ctx v58)) fun v60=>
   M.bind (M.det (JX l9 e2)) fun v62=>
   M.pure ((⟨v60,v62⟩:R18Book),0))))

def Zb (l1:List TEvent) (k2:Int):Int × List TEvent -> M (M.Step (Int × List TEvent) (List TEvent)):=fun ⟨i22,out23⟩=>
 cond ((decide (i22 < (List.length l1:Int))))
  (M.bind (M.bind (M.idx l1 i22) fun x26=>
  cond (decide (x26.kind = k2))
   (M.bind (M.idx l1 i22) fun x29=>
   M.need ((List.length out23 + List.length ([x29])) * 80 <= 140737488355328) <|
   M.pure (out23 ++ [x29]))
   (M.pure out23)) (fun out25=>
  M.pure (.next (((IntKind.i64.wrap (i22 + 1)),out25)))))
  (M.pure (.done out23))
def WR (l1:List TEvent) (k2:Int):M (List TEvent):=
 M.bind (M.loop (Zb l1 k2) (0,([]:List TEvent))) (fun out3=>
 M.pure out3)

def Yv (b1:R18Book):M (List TEvent):=
 M.bind (M.det (WR b1.l 1)) fun v2=>
 M.pure v2

def vb (l1:List TEvent) (cid2:Int):Int × List TEvent -> M (M.Step (Int × List TEvent) (List TEvent)):=fun ⟨i30,some31⟩=>
 cond ((decide (i30 < (List.length l1:Int))))
  (M.bind (M.bind (M.bind (M.idx l1 i30) fun x35=>
  cond (decide (x35.kind = 1))
   (M.bind (M.idx l1 i30) fun x38=>
   M.pure (decide (x38.cid = cid2)))
   (M.pure false)) (fun v34=>
  cond v34
   (M.bind (M.idx l1 i30) fun x41=>
   M.need ((List.length some31 + List.length ([x41])) * 80 <= 140737488355328) <|
   M.pure (some31 ++ [x41]))
   (M.pure some31))) (fun some33=>
  M.pure (.next (((IntKind.i64.wrap (i30 + 1)),some33)))))
  (M.pure (.done some31))
def Yw (l1:List TEvent) (cid2:Int):M (List TDot):=
 M.bind (M.loop (vb l1 cid2) (0,([]:List TEvent))) (fun some3=>
 M.bind (M.det (Za some3)) fun v44=>
 M.pure v44)

def Zc (l1:List TEvent) (cid2:Int) (f3:Int):Int × List TEvent -> M (M.Step (Int × List TEvent) (List TEvent)):=fun ⟨i37,some38⟩=>
 cond ((decide (i37 < (List.length l1:Int))))
  (M.bind (M.bind (M.bind (M.idx l1 i37) fun x42=>
  cond (decide (x42.kind = 1))
   (M.bind (M.idx l1 i37) fun x45=>
   cond (decide (x45.cid = cid2))
    (M.bind (M.idx l1 i37) fun x48=>
    M.pure (decide (x48.field = f3)))
    (M.pure false))
   (M.pure false)) (fun v41=>
  cond v41
   (M.bind (M.idx l1 i37) fun x51=>
   M.need ((List.length some38 + List.length ([x51])) * 80 <= 140737488355328) <|
   M.pure (some38 ++ [x51]))
   (M.pure some38))) (fun some40=>
  M.pure (.next (((IntKind.i64.wrap (i37 + 1)),some40)))))
  (M.pure (.done some38))
def Vv (l1:List TEvent) (cid2:Int) (f3:Int):M (List TDot):=
 M.bind (M.loop (Zc l1 cid2 f3) (0,([]:List TEvent))) (fun some4=>
 M.bind (M.det (Za some4)) fun v54=>
 M.pure v54)

def Vw (b1:R18Book) (e2:TEvent):M (TEvent × Int):=
 M.bind (M.det (Yu (⟨e2.dot,e2.kind,e2.cid,e2.field,e2.text,([]:List TDot)⟩:TEvent))) fun v3=>
 cond (!v3)
  (M.pure (((⟨(⟨0,0⟩:TDot),0,0,0,(⟨#[]⟩:ByteArray),([]:List TDot)⟩:TEvent),1)))
  (M.bind (M.det (wi b1.ctx e2.dot)) fun v6=>
  cond v6
   (M.pure (((⟨(⟨0,0⟩:TDot),0,0,0,(⟨#[]⟩:ByteArray),([]:List TDot)⟩:TEvent),7)))
   (M.bind (M.det (Yv b1)) fun v9=>
   M.bind (M.det (Yw v9 e2.cid)) fun v11=>
   M.bind (cond (decide (e2.kind = 1))
    (M.bind (M.det (Yv b1)) fun v15=>
    M.bind (M.det (Vv v15 e2.cid e2.field)) fun v17=>
    M.pure v17)
    (M.pure v11)) (fun e13=>
   cond ((decide (256 < (List.length e13:Int))))
    (M.pure (((⟨(⟨0,0⟩:TDot),0,0,0,(⟨#[]⟩:ByteArray),([]:List TDot)⟩:TEvent),3)))
    (M.pure ((⟨e2.dot,e2.kind,e2.cid,e2.field,e2.text,e13⟩:TEvent),0)))))

def VJ (b1:R18Book) (c2:List TPart):M R18Book:=
 M.bind (M.det (ZY b1.ctx c2)) fun v3=>
 M.pure (⟨v3,b1.l⟩:R18Book)

def WS (e1:TEvent) (c2:List TPart):M TEvent:=
 M.bind (M.det (wi c2 e1.dot)) fun v3=>
 M.bind (cond v3
  (M.pure ([]:List TDot))
  (M.pure e1.kills)) (fun e5=>
 M.pure (⟨e1.dot,e1.kind,e1.cid,e1.field,e1.text,e5⟩:TEvent))

def vL (b1:R18Book) (c2:List TPart):Int × List TEvent -> M (M.Step (Int × List TEvent) (List TEvent)):=fun ⟨i38,l39⟩=>
 cond ((decide (i38 < (List.length b1.l:Int))))
  (M.bind (M.bind (M.bind (M.idx b1.l i38) fun x43=>
  cond (decide (x43.kind = 1))
   (M.pure true)
   (M.bind (M.idx b1.l i38) fun x46=>
   M.bind (M.det (wi c2 x46.dot)) fun v48=>
   M.pure (!v48))) (fun v42=>
  cond v42
   (M.bind (M.idx b1.l i38) fun x51=>
   M.bind (M.det (WS x51 c2)) fun v53=>
   M.need ((List.length l39 + List.length ([v53])) * 80 <= 140737488355328) <|
   M.pure (l39 ++ [v53]))
   (M.pure l39))) (fun l41=>
  M.pure (.next (((IntKind.i64.wrap (i38 + 1)),l41)))))
  (M.pure (.done l39))
def WT (b1:R18Book) (c2:List TPart):M (R18Book × Int):=
 M.bind (M.loop (vL b1 c2) (0,([]:List TEvent))) (fun l3=>
 M.pure (((⟨b1.ctx,l3⟩:R18Book),(IntKind.i64.wrap ((List.length b1.l:Int) - (List.length l3:Int))))))

def YM (l1:List L18Act):Int × List TPart × List TEvent -> M (M.Step (Int × List TPart × List TEvent) (List TPart × List TEvent)):=fun ⟨i45,x46,x47⟩=>
 cond ((decide (i45 < (List.length l1:Int))))
  (M.bind (M.bind (M.idx l1 i45) fun x51=>
  cond (decide (x51.kind = 0))
   (M.bind (M.det (uo (⟨x46,x47⟩:R18Book) x51.event)) fun v54=>
   M.pure (v54.1.ctx,v54.1.l))
   (cond (decide (x51.kind = 1))
    (M.bind (M.det (Vw (⟨x46,x47⟩:R18Book) x51.event)) fun v57=>
    M.bind (M.det (uo (⟨x46,x47⟩:R18Book) v57.1)) fun v59=>
    M.pure (v59.1.ctx,v59.1.l))
    (cond (decide (x51.kind = 2))
     (M.bind (M.det (VJ (⟨x46,x47⟩:R18Book) x51.ctx)) fun v62=>
     M.pure (v62.ctx,v62.l))
     (cond (decide (x51.kind = 3))
      (M.bind (M.det (WT (⟨x46,x47⟩:R18Book) x51.ctx)) fun v65=>
      M.pure (v65.1.ctx,v65.1.l))
      (M.pure (x46,x47)))))) (fun ⟨x49,x50⟩=>
  M.pure (.next (((IntKind.i64.wrap (i45 + 1)),x49,x50)))))
  (M.pure (.done (x46,x47)))
def qx (l1:List L18Act):M R18Book:=
 M.bind (M.loop (YM l1) (0,([]:List TPart),([]:List TEvent))) (fun ⟨x2,x3⟩=>
 M.pure (⟨x2,x3⟩:R18Book))

def Zd (v1:Int):M (Int × Int):=
 M.pure (((IntKind.u16.wrap (Int.fdiv v1 (2 ^ 48))),(bAnd .u64 v1 281474976710655)))

def Yx (v1:Int):M (TDot × Bool):=
 M.bind (M.det (Zd v1)) fun v2=>
 M.bind (M.det (xH (⟨v2.1,v2.2⟩:TDot))) fun v4=>
 cond (!v4)
  (M.pure ((⟨0,0⟩:TDot),false))
  (M.pure ((⟨v2.1,v2.2⟩:TDot),true))

def Yy (f1:Int):M Bool:=
 M.bind (cond (decide (1 <= f1))
  (M.pure (decide (f1 <= 5)))
  (M.pure false)) (fun v2=>
 M.pure v2)

def xr (s1:ByteArray):Int -> M (M.Step Int (M.Ex Unit Bool)):=fun v20=>
 cond ((decide (v20 < (ByteArray.size s1:Int))))
  (M.bind (M.bind (M.idx (xe s1) v20) fun b23=>
  cond (decide (b23 < 32))
   (M.pure true)
   (M.bind (M.idx (xe s1) v20) fun b26=>
   M.pure (decide (126 < b26)))) (fun v22=>
  cond v22
   (M.pure (.done (.ret false)))
   (M.pure (.next (IntKind.i64.wrap (v20 + 1))))))
  (M.pure (.done (.brk ())))
def Yz (s1:ByteArray):M Bool:=
 cond ((decide (60 < (ByteArray.size s1:Int))))
  (M.pure false)
  (M.bind (M.loop (xr s1) 0) (M.exk (fun _=>
  M.pure true)))

def yf (l1:List TDot):Int -> M (M.Step Int (M.Ex Unit Bool)):=fun v23=>
 cond ((decide (v23 < (List.length l1:Int))))
  (M.bind (cond (decide (0 < v23))
   (M.bind (M.idx l1 (IntKind.i64.wrap (v23 - 1))) fun x27=>
   M.bind (M.idx l1 v23) fun x29=>
   M.bind (M.det (um x27 x29)) fun v31=>
   M.pure (decide (0 <= v31)))
   (M.pure false)) (fun v25=>
  cond v25
   (M.pure (.done (.ret false)))
   (M.pure (.next (IntKind.i64.wrap (v23 + 1))))))
  (M.pure (.done (.brk ())))
def XA (l1:List TDot):M Bool:=
 M.bind (M.loop (yf l1) 0) (M.exk (fun _=>
 M.pure true))

def xt (e1:TEvent):Int -> M (M.Step Int (M.Ex Unit Bool)):=fun v43=>
 cond ((decide (v43 < (List.length e1.kills:Int))))
  (M.bind (M.idx e1.kills v43) fun x45=>
  M.bind (M.bind (M.det (xH x45)) fun v48=>
  cond (!v48)
   (M.pure true)
   (M.pure (((decide (x45.dev = e1.dot.dev) && decide (x45.n = e1.dot.n)))))) (fun v47=>
  cond v47
   (M.pure (.done (.ret false)))
   (M.pure (.next (IntKind.i64.wrap (v43 + 1))))))
  (M.pure (.done (.brk ())))
def xf (e1:TEvent):M Bool:=
 M.bind (M.det (Yx e1.cid)) fun v2=>
 M.bind (cond (!v2.2)
  (M.pure true)
  (M.bind (M.det (xH e1.dot)) fun v6=>
  M.pure (!v6))) (fun v4=>
 cond v4
  (M.pure false)
  (M.bind (cond (decide (e1.kind = 1))
   (M.bind (M.bind (M.det (Yy e1.field)) fun v11=>
   cond (!v11)
    (M.pure true)
    (M.bind (M.det (Yz e1.text)) fun v14=>
    M.pure (!v14))) (fun v10=>
   cond v10
    (M.pure (.ret false))
    (M.pure (.brk ()))))
   (cond (decide (e1.kind = 2))
    (M.bind (cond (!decide (e1.field = 0))
     (M.pure true)
     (M.pure ((!decide (e1.text = (⟨#[]⟩:ByteArray)))))) (fun v18=>
    cond v18
     (M.pure (.ret false))
     (M.pure (.brk ()))))
    (M.pure (.ret false)))) (M.exk (fun _=>
  M.bind (cond ((decide (256 < (List.length e1.kills:Int))))
   (M.pure true)
   (M.bind (M.det (XA e1.kills)) fun v23=>
   M.pure (!v23))) (fun v21=>
  cond v21
   (M.pure false)
   (M.bind (M.loop (xt e1) 0) (M.exk (fun _=>
   M.pure true))))))))

def yA (s1:List TDot) (v2:TDot):Int -> M (M.Step Int (M.Ex Unit Int)):=fun v12=>
 cond ((decide (v12 < (List.length s1:Int))))
  (M.bind (M.idx s1 v12) fun x14=>
  cond (((decide (v2.dev = x14.dev) && decide (v2.n = x14.n))))
   (M.pure (.done (.ret v12)))
   (M.pure (.next (IntKind.i64.wrap (v12 + 1)))))
  (M.pure (.done (.brk ())))
def yq (s1:List TDot) (v2:TDot):M Int:=
 M.bind (M.loop (yA s1 v2) 0) (M.exk (fun _=>
 M.pure (-1)))

def yY (s1:List TDot) (v2:TDot):M Bool:=
 M.bind (M.det (yq s1 v2)) fun v3=>
 M.pure (decide (0 <= v3))

def JY (l1:List TDot) (d2:TDot):M Bool:=
 M.bind (M.det (yY l1 d2)) fun v3=>
 M.pure v3

def Xo (e1:TEvent) (d2:TDot):M Bool:=
 M.bind (M.det (JY e1.kills d2)) fun v3=>
 M.pure v3

def vc (l1:List TEvent) (d2:TDot):Int -> M (M.Step Int (M.Ex Unit Bool)):=fun v16=>
 cond ((decide (v16 < (List.length l1:Int))))
  (M.bind (M.idx l1 v16) fun x18=>
  M.bind (M.det (Xo x18 d2)) fun v20=>
  cond v20
   (M.pure (.done (.ret true)))
   (M.pure (.next (IntKind.i64.wrap (v16 + 1)))))
  (M.pure (.done (.brk ())))
def xg (l1:List TEvent) (d2:TDot):M Bool:=
 M.bind (M.loop (vc l1 d2) 0) (M.exk (fun _=>
 M.pure false))

def uT (s1_1:List TRun) (s2_2:List TRun):Int -> M (M.Step Int (M.Ex Unit Bool)):=fun v17=>
 cond ((decide (v17 < (List.length s1_1:Int))))
  (M.bind (M.idx s1_1 v17) fun x19=>
  M.bind (M.idx s2_2 v17) fun x21=>
  cond ((!(decide (x19.lo = x21.lo) && decide (x19.hi = x21.hi))))
   (M.pure (.done (.ret false)))
   (M.pure (.next (IntKind.i64.wrap (v17 + 1)))))
  (M.pure (.done (.brk ())))
def yP (s1_1:List TRun) (s2_2:List TRun):M Bool:=
 cond ((!decide ((List.length s1_1:Int) = (List.length s2_2:Int))))
  (M.pure false)
  (M.bind (M.loop (uT s1_1 s2_2) 0) (M.exk (fun _=>
  M.pure true)))

def Ug (x1:TPart) (y2:TPart):M Bool:=
 M.bind (cond (decide (x1.dev = y2.dev))
  (M.bind (M.det (yP x1.runs y2.runs)) fun v5=>
  M.pure v5)
  (M.pure false)) (fun v3=>
 M.pure v3)

def zP (s1_1:List TPart) (s2_2:List TPart):Int -> M (M.Step Int (M.Ex Unit Bool)):=fun v21=>
 cond ((decide (v21 < (List.length s1_1:Int))))
  (M.bind (M.idx s1_1 v21) fun x23=>
  M.bind (M.idx s2_2 v21) fun x25=>
  M.bind (M.det (Ug x23 x25)) fun v27=>
  cond (!v27)
   (M.pure (.done (.ret false)))
   (M.pure (.next (IntKind.i64.wrap (v21 + 1)))))
  (M.pure (.done (.brk ())))
def zU (s1_1:List TPart) (s2_2:List TPart):M Bool:=
 cond ((!decide ((List.length s1_1:Int) = (List.length s2_2:Int))))
  (M.pure false)
  (M.bind (M.loop (zP s1_1 s2_2) 0) (M.exk (fun _=>
  M.pure true)))

def qy (a1:List TPart) (b2:List TPart):M Bool:=
 M.bind (M.det (zU a1 b2)) fun v3=>
 M.pure v3

def XB (c1:List TPart):M Bool:=
 M.bind (M.det (vY c1)) fun v2=>
 M.bind (M.det (qy c1 v2)) fun v4=>
 M.pure v4

def Vx (c1:List TPart) (dev2:Int):M (List TRun):=
 M.bind (M.det (vX c1)) fun v3=>
 M.bind (M.det (yz (AL.getZ v3 dev2 ([]:List TRun)))) fun v6=>
 M.pure v6

def uD (x1:TRun) (n2:Int):M Int:=
 M.bind (M.det (ye x1.hi n2)) fun v3=>
 M.pure v3

def zS (x1:List TRun) (target2:Int):Int × Int -> M (M.Step (Int × Int) Int):=fun ⟨i18,j19⟩=>
 cond (decide (i18 < j19))
  (M.bind (M.idx x1 ((IntKind.i64.wrap ((Int.fdiv ((IntKind.u64.wrap (IntKind.i64.wrap (i18 + j19)))) (2 ^ 1)))))) fun x21=>
  M.bind (M.det (uD x21 target2)) fun v23=>
  cond (decide (v23 < 0))
   (M.pure (.next (((IntKind.i64.wrap (((IntKind.i64.wrap ((Int.fdiv ((IntKind.u64.wrap (IntKind.i64.wrap (i18 + j19)))) (2 ^ 1))))) + 1)),j19))))
   (M.pure (.next ((i18,(IntKind.i64.wrap ((Int.fdiv ((IntKind.u64.wrap (IntKind.i64.wrap (i18 + j19)))) (2 ^ 1)))))))))
  (M.pure (.done i18))
def zJ (x1:List TRun) (target2:Int):M (Int × Bool):=
 M.bind (M.loop (zS x1 target2) (0,(List.length x1:Int))) (fun i3=>
 M.bind (cond ((decide (i3 < (List.length x1:Int))))
  (M.bind (M.idx x1 i3) fun x28=>
  M.bind (M.det (uD x28 target2)) fun v30=>
  M.pure (decide (v30 = 0)))
  (M.pure false)) (fun v26=>
 M.pure (i3,v26)))

def Vy (l1:List TRun) (n2:Int):M Bool:=
 M.bind (M.det (yz l1)) fun v3=>
 M.bind (M.det (zJ v3 n2)) fun v5=>
 M.bind (cond ((decide (v5.1 < (List.length v3:Int))))
  (M.bind (M.idx v3 v5.1) fun x9=>
  M.pure (decide (x9.lo <= n2)))
  (M.pure false)) (fun v7=>
 M.pure v7)

def vR (c1:List TPart) (d2:TDot):M Bool:=
 M.bind (cond (decide (0 < d2.dev))
  (M.bind (M.det (Vx c1 d2.dev)) fun v5=>
  M.bind (M.det (Vy v5 d2.n)) fun v7=>
  M.pure v7)
  (M.pure false)) (fun v3=>
 M.pure v3)

def vd (l1:List TDot) (c2:List TPart) (has3:Bool):Int × List TDot -> M (M.Step (Int × List TDot) (List TDot)):=fun ⟨v23,out24⟩=>
 cond ((decide (v23 < (List.length l1:Int))))
  (M.bind (M.bind (M.idx l1 v23) fun x27=>
  M.bind (M.det (vR c2 x27)) fun v29=>
  cond (v29 == has3)
   (M.need ((List.length out24 + List.length ([x27])) * 16 <= 140737488355328) <|
   M.pure (out24 ++ [x27]))
   (M.pure out24)) (fun out26=>
  M.pure (.next (((IntKind.i64.wrap (v23 + 1)),out26)))))
  (M.pure (.done out24))
def VK (l1:List TDot) (c2:List TPart) (has3:Bool):M (List TDot):=
 M.bind (M.loop (vd l1 c2 has3) (0,([]:List TDot))) (fun out4=>
 M.bind (M.det (WM out4)) fun v33=>
 M.pure v33)

def ZB (l1:List TDot) (c2:List TPart):M (List TDot):=
 M.bind (M.det (VK l1 c2 false)) fun v3=>
 M.pure v3

def ve (l1:List TEvent):Int × List TDot -> M (M.Step (Int × List TDot) (List TDot)):=fun ⟨v15,out16⟩=>
 cond ((decide (v15 < (List.length l1:Int))))
  (M.bind (M.idx l1 v15) fun x18=>
  M.need ((List.length out16 + List.length ([x18.dot])) * 16 <= 140737488355328) <|
  M.need ((List.length (out16 ++ [x18.dot]) + List.length x18.kills) * 16 <= 140737488355328) <|
  M.pure (.next (((IntKind.i64.wrap (v15 + 1)),((out16 ++ [x18.dot]) ++ x18.kills)))))
  (M.pure (.done out16))
def xh (l1:List TEvent):M (List TDot):=
 M.bind (M.loop (ve l1) (0,([]:List TDot))) (fun out2=>
 M.bind (M.det (WM out2)) fun v22=>
 M.pure v22)

def xu (c1:List TPart):M (List TPart):=
 M.bind (M.det (Xm c1 ([]:List TPart) 0)) fun v2=>
 M.pure v2

def XC :Int × Int -> M (M.Step (Int × Int) Int):=fun ⟨v7,n8⟩=>
 cond (decide (0 < v7))
  (M.pure (.next (((IntKind.u64.wrap (Int.tdiv v7 256)),(IntKind.i64.wrap (n8 + 1))))))
  (M.pure (.done n8))
def zEa (v1:Int):M Int:=
 M.bind (M.loop XC (v1,0)) (fun n2=>
 M.pure n2)

def wj (i2:Int):Int × Int -> M (M.Step (Int × Int) Int):=fun ⟨v11,k12⟩=>
 cond (decide (k12 < i2))
  (M.pure (.next (((IntKind.u64.wrap (Int.tdiv v11 256)),(IntKind.i64.wrap (k12 + 1))))))
  (M.pure (.done v11))
def JZ (v1:Int) (i2:Int):M Int:=
 M.bind (cond (decide (i2 < 0))
  (M.pure true)
  (M.pure (decide (7 < i2)))) (fun v3=>
 cond v3
  (M.pure 0)
  (M.bind (M.loop (wj i2) (v1,0)) (fun v6=>
  M.pure (IntKind.u8.wrap (Int.tmod v6 256)))))

def vf (v2:Int):Int × List Int -> M (M.Step (Int × List Int) (List Int)):=fun ⟨i18,v19⟩=>
 cond (decide (0 <= i18))
  (M.bind (M.det (JZ v2 i18)) fun v21=>
  M.need ((List.length v19 + List.length ([v21])) * 1 <= 140737488355328) <|
  M.pure (.next (((IntKind.i64.wrap (i18 - 1)),(v19 ++ [v21])))))
  (M.pure (.done v19))
def wk (b1:List Int) (v2:Int):M (List Int):=
 M.need ((List.length ([]:List Int) + List.length b1) * 1 <= 140737488355328) <|
 M.bind (M.det (zEa v2)) fun v4=>
 M.need ((List.length (([]:List Int) ++ b1) + List.length ([(IntKind.u8.wrap v4)])) * 1 <= 140737488355328) <|
 M.bind (M.loop (vf v2) (((IntKind.i64.wrap (v4 - 1)),((([]:List Int) ++ b1) ++ [(IntKind.u8.wrap v4)])))) (fun v7=>
 M.pure v7)

def XD (b1:List Int) (d2:TDot):M (List Int):=
 M.bind (M.det (wk b1 (IntKind.u64.wrap d2.dev))) fun v3=>
 M.bind (M.det (wk v3 d2.n)) fun v5=>
 M.pure v5

def Ze (s2:ByteArray):Int × List Int -> M (M.Step (Int × List Int) (List Int)):=fun ⟨i16,v17⟩=>
 cond ((decide (i16 < (ByteArray.size s2:Int))))
  (M.bind (M.idx (xe s2) i16) fun b19=>
  M.need ((List.length v17 + List.length ([b19])) * 1 <= 140737488355328) <|
  M.pure (.next (((IntKind.i64.wrap (i16 + 1)),(v17 ++ [b19])))))
  (M.pure (.done v17))
def Ja (b1:List Int) (s2:ByteArray):M (List Int):=
 M.bind (M.det (wk b1 (IntKind.u64.wrap (ByteArray.size s2:Int)))) fun v3=>
 M.bind (M.loop (Ze s2) (0,v3)) (fun v5=>
 M.pure v5)

def xR (l2:List TDot):List TDot × Int -> M (M.Step (List TDot × Int) (List TDot)):=fun ⟨some28,i29⟩=>
 cond ((decide (i29 < (List.length l2:Int))))
  (M.bind (M.bind (M.idx l2 i29) fun x32=>
  M.bind (M.det (vZ x32)) fun v34=>
  cond v34
   (M.bind (M.idx l2 i29) fun x37=>
   M.bind (M.det (un some28 x37)) fun v39=>
   M.pure v39)
   (M.pure some28)) (fun some31=>
  M.pure (.next ((some31,(IntKind.i64.wrap (i29 + 1)))))))
  (M.pure (.done some28))
def vF (some3:List TDot):List Int × Int -> M (M.Step (List Int × Int) (List Int)):=fun ⟨out56,i57⟩=>
 cond ((decide (i57 < (List.length some3:Int))))
  (M.bind (M.idx some3 i57) fun x59=>
  M.bind (M.det (XD out56 x59)) fun v61=>
  M.pure (.next ((v61,(IntKind.i64.wrap (i57 + 1))))))
  (M.pure (.done out56))
def Xp (b1:List Int) (l2:List TDot):M (List Int):=
 M.bind (M.loop (xR l2) (([]:List TDot),0)) (fun some3=>
 M.bind (M.det (wk b1 (IntKind.u64.wrap (List.length some3:Int)))) fun v41=>
 M.bind (M.loop (vF some3) (v41,0)) (fun out43=>
 M.pure out43))

def xaa (b1:List Int) (e2:TEvent):M (List Int):=
 M.bind (M.det (XD b1 e2.dot)) fun v3=>
 M.need ((List.length v3 + List.length ([e2.kind])) * 1 <= 140737488355328) <|
 M.bind (M.det (wk (v3 ++ [e2.kind]) e2.cid)) fun v6=>
 M.need ((List.length v6 + List.length ([e2.field])) * 1 <= 140737488355328) <|
 M.bind (M.det (Ja (v6 ++ [e2.field]) e2.text)) fun v9=>
 M.bind (M.det (Xp v9 e2.kills)) fun v11=>
 M.pure v11

def wn (e1:TEvent) (nl2:Bool) (m3:List (TDot × TEvent)):M (Bool × (List (TDot × TEvent))):=
 M.bind (cond nl2
  (M.pure ([]:List (TDot × TEvent)))
  (M.pure m3)) (fun v4=>
 M.bind (M.det (yb e1)) fun v9=>
 M.pure (false,(AL.set v4 e1.dot v9)))

def zm (l2:List TEvent):Int × Bool × (List (TDot × TEvent)) × Bool × (List (TDot × TEvent)) -> M (M.Step (Int × Bool × (List (TDot × TEvent)) × Bool × (List (TDot × TEvent))) (M.Ex (Bool × (List (TDot × TEvent)) × Bool × (List (TDot × TEvent))) (Unit ⊕ (List TPart × Bool × (List (TDot × TEvent)) × Bool × (List (TDot × TEvent)))))):=fun ⟨v72,nl73,v74,nl75,v76⟩=>
 cond ((decide (v72 < (List.length l2:Int))))
  (M.bind (M.bind (M.idx l2 v72) fun x82=>
  M.bind (M.bind (M.det (xf x82)) fun v85=>
  cond (!v85)
   (M.pure true)
   (cond (decide (0 < v72))
    (M.bind (M.idx l2 (IntKind.i64.wrap (v72 - 1))) fun x89=>
    M.bind (M.det (um x89.dot x82.dot)) fun v91=>
    cond (decide (0 <= v91))
     (M.pure true)
     (cond (decide (x82.kind = 1))
      (M.bind (M.det (xg l2 x82.dot)) fun v95=>
      M.pure v95)
      (M.pure false)))
    (cond (decide (x82.kind = 1))
     (M.bind (M.det (xg l2 x82.dot)) fun v98=>
     M.pure v98)
     (M.pure false)))) (fun v84=>
  cond v84
   (M.pure (.ret ((.done ((.ret (.inl ())))))))
   (cond (decide (x82.kind = 1))
    (M.bind (M.det (wn x82 nl75 v76)) fun y102=>
    M.pure (.brk (nl73,v74,y102.1,y102.2)))
    (M.bind (M.det (wn x82 nl73 v74)) fun y104=>
    M.pure (.brk (y104.1,y104.2,nl75,v76)))))) (M.exk (fun ⟨nl78,v79,nl80,v81⟩=>
  M.pure (.next (((IntKind.i64.wrap (v72 + 1)),nl78,v79,nl80,v81))))))
  (M.pure (.done (.brk (nl73,v74,nl75,v76))))
def xA (c1:List TPart) (l2:List TEvent):M (Unit ⊕ (List TPart × Bool × (List (TDot × TEvent)) × Bool × (List (TDot × TEvent)))):=
 M.bind (M.det (vY c1)) fun v3=>
 M.bind (M.loop (zm l2) ((0,true,([]:List (TDot × TEvent)),true,([]:List (TDot × TEvent))))) (M.exk (fun ⟨nl5,v6,nl7,v8⟩=>
 M.bind (M.bind (M.det (XB c1)) fun v107=>
 cond (!v107)
  (M.pure true)
  (M.bind (M.det (xh l2)) fun v110=>
  M.bind (M.det (ZB v110 c1)) fun v112=>
  M.pure ((decide (0 < ((List.length v112):Int)))))) (fun v106=>
 cond v106
  (M.pure (.inl ()))
  (M.pure (.inr (v3,nl7,v8,nl5,v6))))))

def Zf (a1:List TDot) (b2:List TDot):Int -> M (M.Step Int (M.Ex Unit Bool)):=fun i17=>
 cond ((decide (i17 < (List.length a1:Int))))
  (M.bind (M.idx a1 i17) fun x19=>
  M.bind (M.idx b2 i17) fun x21=>
  cond ((!(decide (x19.dev = x21.dev) && decide (x19.n = x21.n))))
   (M.pure (.done (.ret false)))
   (M.pure (.next (IntKind.i64.wrap (i17 + 1)))))
  (M.pure (.done (.brk ())))
def WU (a1:List TDot) (b2:List TDot):M Bool:=
 cond ((!decide ((List.length a1:Int) = (List.length b2:Int))))
  (M.pure false)
  (M.bind (M.loop (Zf a1 b2) 0) (M.exk (fun _=>
  M.pure true)))

def Vz (a1:TEvent) (b2:TEvent):M Bool:=
 M.bind (cond (((decide (a1.dot.dev = b2.dot.dev) && decide (a1.dot.n = b2.dot.n))))
  (cond (decide (a1.kind = b2.kind))
   (cond (decide (a1.cid = b2.cid))
    (cond (decide (a1.field = b2.field))
     (cond (decide (a1.text = b2.text))
      (M.bind (M.det (WU a1.kills b2.kills)) fun v9=>
      M.pure v9)
      (M.pure false))
     (M.pure false))
    (M.pure false))
   (M.pure false))
  (M.pure false)) (fun v3=>
 M.pure v3)

def xba (a1:List TRun) (b2:List TRun):Int -> M (M.Step Int (M.Ex Unit Bool)):=fun i17=>
 cond ((decide (i17 < (List.length a1:Int))))
  (M.bind (M.idx a1 i17) fun x19=>
  M.bind (M.idx b2 i17) fun x21=>
  cond ((!(decide (x19.lo = x21.lo) && decide (x19.hi = x21.hi))))
   (M.pure (.done (.ret false)))
   (M.pure (.next (IntKind.i64.wrap (i17 + 1)))))
  (M.pure (.done (.brk ())))
def z5a (a1:List TRun) (b2:List TRun):M Bool:=
 cond ((!decide ((List.length a1:Int) = (List.length b2:Int))))
  (M.pure false)
  (M.bind (M.loop (xba a1 b2) 0) (M.exk (fun _=>
  M.pure true)))

def WV (a1:List TPart) (b2:List TPart):Int -> M (M.Step Int (M.Ex Unit Bool)):=fun i33=>
 cond ((decide (i33 < (List.length a1:Int))))
  (M.bind (M.bind (M.idx a1 i33) fun x36=>
  M.bind (M.idx b2 i33) fun x38=>
  cond (!decide (x36.dev = x38.dev))
   (M.pure true)
   (M.bind (M.idx a1 i33) fun x41=>
   M.bind (M.idx b2 i33) fun x43=>
   M.bind (M.det (z5a x41.runs x43.runs)) fun v45=>
   M.pure (!v45))) (fun v35=>
  cond v35
   (M.pure (.done (.ret false)))
   (M.pure (.next (IntKind.i64.wrap (i33 + 1))))))
  (M.pure (.done (.brk ())))
def Uh (a1:List TPart) (b2:List TPart):M Bool:=
 cond ((!decide ((List.length a1:Int) = (List.length b2:Int))))
  (M.pure false)
  (M.bind (M.loop (WV a1 b2) 0) (M.exk (fun _=>
  M.pure true)))

def uc :List TRun × List TRun × List TRun -> M (M.Step (List TRun × List TRun × List TRun) (List TRun)):=fun ⟨a53,b54,out55⟩=>
 M.bind (cond ((decide (0 < (List.length a53:Int))))
  (M.pure ((decide (0 < (List.length b54:Int)))))
  (M.pure false)) (fun v56=>
 cond v56
  (M.bind (M.idx a53 0) fun x59=>
  M.bind (M.idx b54 0) fun x61=>
  M.bind (M.idx a53 0) fun x63=>
  M.bind (M.idx b54 0) fun x65=>
  M.bind (cond ((decide ((max x59.lo x61.lo) <= (min x63.hi x65.hi))))
   (M.need ((List.length out55 + List.length ([(⟨(max x59.lo x61.lo),(min x63.hi x65.hi)⟩:TRun)])) * 16 <= 140737488355328) <|
   M.pure ((out55 ++ [(⟨(max x59.lo x61.lo),(min x63.hi x65.hi)⟩:TRun)])))
   (M.pure out55)) (fun out67=>
  M.bind (M.idx a53 0) fun x70=>
  M.bind (M.idx b54 0) fun x72=>
  cond (decide (x70.hi < x72.hi))
   (M.need ((0:Int) <= 1 /\ (1:Int) <= (List.length a53:Int) /\ (List.length a53:Int) <= (List.length a53:Int)) <|
   M.pure (.next (((List.drop (Int.toNat 1) (List.take (Int.toNat (List.length a53:Int)) a53)),b54,out67))))
   (M.need ((0:Int) <= 1 /\ (1:Int) <= (List.length b54:Int) /\ (List.length b54:Int) <= (List.length b54:Int)) <|
   M.pure (.next ((a53,(List.drop (Int.toNat 1) (List.take (Int.toNat (List.length b54:Int)) b54)),out67))))))
  (M.pure (.done out55)))
def ZC (a1:List TRun) (b2:List TRun):M (List TRun):=
 M.bind (M.det (yz a1)) fun v3=>
 M.bind (M.det (yz b2)) fun v5=>
 M.bind (M.loop uc (v3,v5,([]:List TRun))) (fun out7=>
 M.pure out7)

def vM (v6:List (Int × List TRun)):List Nat × (List (Int × List TRun)) -> M (M.Step (List Nat × (List (Int × List TRun))) (List (Int × List TRun))):=fun ⟨seen32,v33⟩=>
 M.need (∀ i ∈ seen32,i < List.length v33)<|M.bind (M.nxt (List.length v33) seen32) fun o=>match o with
 | none=>
  M.pure (.done v33)
 | some j34=>
  M.bind (M.idx v33 (Int.ofNat j34)) fun kv38=>
  M.bind (M.det (ZC kv38.2 (AL.getZ v6 kv38.1 ([]:List TRun)))) fun v40=>
  M.need (AL.has v33 kv38.1 = true) <|
  M.pure (.next ((seen32 ++ [j34]),(AL.set v33 kv38.1 v40)))
def xv (a1:List TPart) (b2:List TPart):M (List TPart):=
 M.bind (M.det (vX a1)) fun v3=>
 M.bind (M.det (vX b2)) fun v6=>
 M.bind (M.loop (vM v6) ([],v3)) (fun v9=>
 M.bind (M.det (xq v9)) fun v44=>
 M.pure v44)

def UA (a1:List TPart) (b2:List TPart):M (List TPart):=
 M.bind (M.det (xv a1 b2)) fun v3=>
 M.pure v3

def ud (v2:List TRun):Int × Int × List TRun -> M (M.Step (Int × Int × List TRun) (Int × List TRun)):=fun ⟨at17,v18,out19⟩=>
 cond ((decide (v18 < ((List.length v2):Int))))
  (M.bind (M.idx v2 v18) fun x21=>
  M.need ((List.length out19 + List.length ([(⟨at17,(IntKind.u64.wrap (x21.lo - 1))⟩:TRun)])) * 16 <= 140737488355328) <|
  M.pure (.next (((IntKind.u64.wrap (x21.hi + 1)),(IntKind.i64.wrap (v18 + 1)),(out19 ++ [(⟨at17,(IntKind.u64.wrap (x21.lo - 1))⟩:TRun)])))))
  (M.pure (.done (at17,out19)))
def WW (l1:List TRun):M (List TRun):=
 M.bind (M.det (yz l1)) fun v2=>
 M.bind (M.loop (ud v2) (1,0,([]:List TRun))) (fun ⟨at4,out5⟩=>
 M.need ((List.length out5 + List.length ([(⟨at4,281474976710655⟩:TRun)])) * 16 <= 140737488355328) <|
 M.pure (out5 ++ [(⟨at4,281474976710655⟩:TRun)]))

def ZD (a1:List TRun) (b2:List TRun):M (List TRun):=
 M.bind (M.det (WW b2)) fun v3=>
 M.bind (M.det (ZC a1 v3)) fun v5=>
 M.pure v5

def we (v6:List (Int × List TRun)):List Nat × (List (Int × List TRun)) -> M (M.Step (List Nat × (List (Int × List TRun))) (List (Int × List TRun))):=fun ⟨seen32,v33⟩=>
 M.need (∀ i ∈ seen32,i < List.length v33)<|M.bind (M.nxt (List.length v33) seen32) fun o=>match o with
 | none=>
  M.pure (.done v33)
 | some j34=>
  M.bind (M.idx v33 (Int.ofNat j34)) fun kv38=>
  M.bind (M.det (ZD kv38.2 (AL.getZ v6 kv38.1 ([]:List TRun)))) fun v40=>
  M.need (AL.has v33 kv38.1 = true) <|
  M.pure (.next ((seen32 ++ [j34]),(AL.set v33 kv38.1 v40)))
def xZ (a1:List TPart) (b2:List TPart):M (List TPart):=
 M.bind (M.det (vX a1)) fun v3=>
 M.bind (M.det (vX b2)) fun v6=>
 M.bind (M.loop (we v6) ([],v3)) (fun v9=>
 M.bind (M.det (xq v9)) fun v44=>
 M.pure v44)

def WX (a1:List TPart) (b2:List TPart):M (List TPart):=
 M.bind (M.det (xZ a1 b2)) fun v3=>
 M.pure v3

def ZE (d:TDot):Bool:=decide (0 < d.dev) && (decide (0 < d.n) && decide (d.n <= 281474976710655))
theorem Ve (d:TDot):xH d = M.pure (ZE d):=by
 unfold xH ZE;rw [M.zT,M.zT];rfl
def xw (d:TDot):Option (Int × List TRun):=if ZE d then some (d.dev,[⟨d.n,d.n⟩]) else none
def z6a (l1:List TDot):M (List TPart):=
 M.need (AL.growOK 16 (List.length l1) (List.filterMap xw l1)) <|
 M.bind (M.det (xq ((AL.grow ([]:List (Int × List TRun)) (List.filterMap xw l1))))) fun v17=>
 M.pure v17

def UB (a1:List TPart) (b2:List TPart):M (List TPart):=
 M.bind (M.det (Xm a1 b2 1)) fun v3=>
 M.pure v3

def WY (a1:List TPart) (b2:List TPart):M (List TPart):=
 M.bind (M.det (Xm a1 b2 2)) fun v3=>
 M.pure v3

def XE (a1:List TEvent) (b2:List TEvent):Int -> M (M.Step Int (M.Ex Unit Bool)):=fun i21=>
 cond ((decide (i21 < (List.length a1:Int))))
  (M.bind (M.idx a1 i21) fun x23=>
  M.bind (M.idx b2 i21) fun x25=>
  M.bind (M.det (Vz x23 x25)) fun v27=>
  cond (!v27)
   (M.pure (.done (.ret false)))
   (M.pure (.next (IntKind.i64.wrap (i21 + 1)))))
  (M.pure (.done (.brk ())))
def Xq (a1:List TEvent) (b2:List TEvent):M Bool:=
 cond ((!decide ((List.length a1:Int) = (List.length b2:Int))))
  (M.pure false)
  (M.bind (M.loop (XE a1 b2) 0) (M.exk (fun _=>
  M.pure true)))

def yJ (n1:Int):M (List TPart):=
 cond (decide (n1 < 0))
  M.fail
  (M.bind (cond ((decide (0 < ((IntKind.i64.wrap (n1 - (IntKind.i64.wrap (0 - 0))))))))
   (M.need (0 < ((IntKind.i64.wrap (n1 - (IntKind.i64.wrap (0 - 0))))) /\ ((IntKind.i64.wrap (n1 - (IntKind.i64.wrap (0 - 0))))) * 32 <= 140737488355328) <|
   M.need ((0:Int) <= 0 /\ (0:Int) <= 0 /\ 0 <= (List.length ((List.replicate (Int.toNat ((IntKind.i64.wrap (n1 - (IntKind.i64.wrap (0 - 0)))))) (⟨0,([]:List TRun)⟩:TPart))):Int)) <|
   M.pure ((List.take (Int.toNat 0) ((List.replicate (Int.toNat ((IntKind.i64.wrap (n1 - (IntKind.i64.wrap (0 - 0)))))) (⟨0,([]:List TRun)⟩:TPart))))))
   (M.pure ([]))) (fun v3=>
  M.pure v3))

def zY (slices1:List (List TPart)):Int × Int -> M (M.Step (Int × Int) Int):=fun ⟨size13,v14⟩=>
 cond ((decide (v14 < (List.length slices1:Int))))
  (M.bind (M.idx slices1 v14) fun x16=>
  cond ((decide (((IntKind.i64.wrap (size13 + (List.length x16:Int)))) < 0)))
   M.fail
   (M.pure (.next (((IntKind.i64.wrap (size13 + (List.length x16:Int))),(IntKind.i64.wrap (v14 + 1)))))))
  (M.pure (.done size13))
def zZ (slices1:List (List TPart)):Int × List TPart -> M (M.Step (Int × List TPart) (List TPart)):=fun ⟨v32,v33⟩=>
 cond ((decide (v32 < (List.length slices1:Int))))
  (M.bind (M.idx slices1 v32) fun x35=>
  M.need ((List.length v33 + List.length x35) * 32 <= 140737488355328) <|
  M.pure (.next (((IntKind.i64.wrap (v32 + 1)),(v33 ++ x35)))))
  (M.pure (.done v33))
def yW (slices1:List (List TPart)):M (List TPart):=
 M.bind (M.loop (zY slices1) (0,0)) (fun size2=>
 M.bind (M.det (yJ size2)) fun v19=>
 M.bind (M.loop (zZ slices1) (0,v19)) (fun v21=>
 M.pure v21))

def WZ (a1:List TPart) (b2:List TPart):M (List TPart):=
 M.bind (M.det (yW ([a1,b2]))) fun v3=>
 M.bind (M.det (vY v3)) fun v5=>
 M.pure v5

def Ui (c1:List TPart) (l2:List TDot):M (List TPart):=
 M.bind (M.det (z6a l2)) fun v3=>
 M.bind (M.det (WZ c1 v3)) fun v5=>
 M.pure v5

def Xr (e1:TEvent) (c2:List TPart):M TEvent:=
 M.bind (M.det (yb e1)) fun v3=>
 M.bind (M.det (vR c2 v3.dot)) fun v5=>
 M.bind (cond v5
  (M.pure ([]:List TDot))
  (M.pure v3.kills)) (fun e7=>
 M.pure (⟨v3.dot,v3.kind,v3.cid,v3.field,v3.text,e7⟩:TEvent))

def YA (e1:TEvent) (cv2:Int) (cv3:Int):M Bool:=
 M.bind (cond (decide (e1.cid = cv2))
  (M.pure (decide (e1.field = cv3)))
  (M.pure false)) (fun v4=>
 M.pure v4)

def yE (l1:List TEvent) (cv2:Int) (cv3:Int):Int × List TEvent -> M (M.Step (Int × List TEvent) (List TEvent)):=fun ⟨v27,some28⟩=>
 cond ((decide (v27 < (List.length l1:Int))))
  (M.bind (M.bind (M.idx l1 v27) fun x31=>
  M.bind (cond (decide (x31.kind = 1))
   (M.bind (M.det (YA x31 cv2 cv3)) fun v35=>
   M.pure v35)
   (M.pure false)) (fun v33=>
  cond v33
   (M.need ((List.length some28 + List.length ([x31])) * 80 <= 140737488355328) <|
   M.pure (some28 ++ [x31]))
   (M.pure some28))) (fun some30=>
  M.pure (.next (((IntKind.i64.wrap (v27 + 1)),some30)))))
  (M.pure (.done some28))
def wg (l1:List TEvent) (cv2:Int) (cv3:Int):M (List TDot):=
 M.bind (M.loop (yE l1 cv2 cv3) (0,([]:List TEvent))) (fun some4=>
 M.bind (M.det (xh some4)) fun v39=>
 M.pure v39)

def XF (l1:List TEvent) (cid2:Int) (f3:Int):M (List TDot):=
 M.bind (M.det (wg l1 cid2 f3)) fun v4=>
 M.pure v4

def ue (e1:TEvent) (cv2:Int):M Bool:=
 M.pure (decide (e1.cid = cv2))

def zr (l1:List TEvent) (cv2:Int):Int × List TEvent -> M (M.Step (Int × List TEvent) (List TEvent)):=fun ⟨v26,some27⟩=>
 cond ((decide (v26 < (List.length l1:Int))))
  (M.bind (M.bind (M.idx l1 v26) fun x30=>
  M.bind (cond (decide (x30.kind = 1))
   (M.bind (M.det (ue x30 cv2)) fun v34=>
   M.pure v34)
   (M.pure false)) (fun v32=>
  cond v32
   (M.need ((List.length some27 + List.length ([x30])) * 80 <= 140737488355328) <|
   M.pure (some27 ++ [x30]))
   (M.pure some27))) (fun some29=>
  M.pure (.next (((IntKind.i64.wrap (v26 + 1)),some29)))))
  (M.pure (.done some27))
def xi (l1:List TEvent) (cv2:Int):M (List TDot):=
 M.bind (M.loop (zr l1 cv2) (0,([]:List TEvent))) (fun some3=>
 M.bind (M.det (xh some3)) fun v38=>
 M.pure v38)

def uf (l1:List TEvent) (cid2:Int):M (List TDot):=
 M.bind (M.det (xi l1 cid2)) fun v3=>
 M.pure v3

def YN (m2:List (TDot × TEvent)):List Nat × List TEvent -> M (M.Step (List Nat × List TEvent) (List TEvent)):=fun ⟨seen30,out31⟩=>
 M.need (∀ i ∈ seen30,i < List.length m2)<|M.bind (M.nxt (List.length m2) seen30) fun o=>match o with
 | none=>
  M.pure (.done out31)
 | some j32=>
  M.bind (M.idx m2 (Int.ofNat j32)) fun kv36=>
  M.bind (M.det (yb kv36.2)) fun v38=>
  M.need ((List.length out31 + List.length ([v38])) * 80 <= 140737488355328) <|
  M.pure (.next ((seen30 ++ [j32]),(out31 ++ [v38])))
def vN (nl1:Bool) (m2:List (TDot × TEvent)):M (List TEvent):=
 M.bind (M.bind (M.loop (YN m2) ([],([]:List TEvent))) (fun out6=>
 M.pure out6)) (fun out3=>
 M.need (List.length out3 < 4611686018427387904)<|M.bind (M.srt ZU out3) fun s42=>
 M.pure s42)

def zi (ctx_1:List TPart) (nl2:Bool) (m3:List (TDot × TEvent)) (nl4:Bool) (m5:List (TDot × TEvent)):M (List TEvent):=
 M.bind (M.det (vN nl2 m3)) fun y6=>
 M.pure y6

def YB (e1:TEvent) (ctx_2:List TPart) (nl3:Bool) (m4:List (TDot × TEvent)) (nl5:Bool) (m6:List (TDot × TEvent)):M (TEvent × Int):=
 M.bind (M.bind (M.det (xf (⟨e1.dot,e1.kind,e1.cid,e1.field,e1.text,([]:List TDot)⟩:TEvent))) fun v8=>
 cond (!v8)
  (M.pure (.ret ((((⟨(⟨0,0⟩:TDot),0,0,0,(⟨#[]⟩:ByteArray),([]:List TDot)⟩:TEvent),1)))))
  (M.bind (M.det (vR ctx_2 e1.dot)) fun v11=>
  cond v11
   (M.pure (.ret ((((⟨(⟨0,0⟩:TDot),0,0,0,(⟨#[]⟩:ByteArray),([]:List TDot)⟩:TEvent),7)))))
   (cond (decide (e1.kind = 1))
    (M.bind (M.det (zi ctx_2 nl3 m4 nl5 m6)) fun y15=>
    M.bind (M.det (XF y15 e1.cid e1.field)) fun v17=>
    M.pure (.brk v17))
    (M.bind (M.det (zi ctx_2 nl3 m4 nl5 m6)) fun y19=>
    M.bind (M.det (uf y19 e1.cid)) fun v21=>
    M.pure (.brk v21))))) (M.exk (fun e7=>
 cond ((decide (256 < (List.length e7:Int))))
  (M.pure (((⟨(⟨0,0⟩:TDot),0,0,0,(⟨#[]⟩:ByteArray),([]:List TDot)⟩:TEvent),3)))
  (M.pure ((⟨e1.dot,e1.kind,e1.cid,e1.field,e1.text,e7⟩:TEvent),0))))

def yg (e1:TEvent):Int × (List (TDot × TEvent)) -> M (M.Step (Int × (List (TDot × TEvent))) (List (TDot × TEvent))):=fun ⟨v26,v27⟩=>
 cond ((decide (v26 < (List.length e1.kills:Int))))
  (M.bind (M.idx e1.kills v26) fun x29=>
  M.pure (.next (((IntKind.i64.wrap (v26 + 1)),(AL.del v27 x29)))))
  (M.pure (.done v27))
def zt (e1:TEvent) (ctx_2:List TPart) (nl3:Bool) (m4:List (TDot × TEvent)) (nl5:Bool) (m6:List (TDot × TEvent)):M (Int × List TPart × Bool × (List (TDot × TEvent)) × Bool × (List (TDot × TEvent))):=
 M.bind (M.det (xf e1)) fun v7=>
 cond (!v7)
  (M.pure (1,ctx_2,nl3,m4,nl5,m6))
  (M.bind (M.det (vR ctx_2 e1.dot)) fun v10=>
  cond v10
   (M.pure (7,ctx_2,nl3,m4,nl5,m6))
   (M.bind (M.det (xh ([e1]))) fun v13=>
   M.bind (M.det (Ui ctx_2 v13)) fun v15=>
   M.bind (M.loop (yg e1) (0,m4)) (fun v17=>
   M.bind (cond (decide (e1.kind = 1))
    (M.bind (M.det (wn e1 nl3 v17)) fun y36=>
    M.pure (nl5,m6,y36.1,y36.2))
    (M.bind (M.det (wn e1 nl5 m6)) fun y38=>
    M.pure (y38.1,y38.2,nl3,v17))) (fun ⟨nl31,v32,nl33,v34⟩=>
   M.pure (0,v15,nl33,v34,nl31,v32)))))

def ym (ctx_1:List TPart) (nl2:Bool) (m3:List (TDot × TEvent)) (nl4:Bool) (m5:List (TDot × TEvent)):M (List TEvent):=
 M.bind (M.det (vN nl4 m5)) fun y6=>
 M.pure y6

def xx (l1:List TEvent) (c2:List TPart) (nl3:Bool):Int × (List (TDot × TEvent)) -> M (M.Step (Int × (List (TDot × TEvent))) (Bool × (List (TDot × TEvent)))):=fun ⟨v23,v24⟩=>
 cond ((decide (v23 < (List.length l1:Int))))
  (M.bind (M.bind (M.idx l1 v23) fun x27=>
  cond (AL.has v24 x27.dot)
   (M.bind (M.det (Xr x27 c2)) fun v30=>
   M.need (AL.has v24 x27.dot = true) <|
   M.pure (AL.set v24 x27.dot v30))
   (M.pure v24)) (fun v26=>
  M.pure (.next (((IntKind.i64.wrap (v23 + 1)),v26)))))
  (M.pure (.done (nl3,v24)))
def YO (l1:List TEvent) (c2:List TPart) (nl3:Bool) (m4:List (TDot × TEvent)):M (Bool × (List (TDot × TEvent))):=
 M.loop (xx l1 c2 nl3) (0,m4)

def yM (y7:List TEvent) (c1:List TPart):Int × Int × (List (TDot × TEvent)) -> M (M.Step (Int × Int × (List (TDot × TEvent))) (Int × (List (TDot × TEvent)))):=fun ⟨n30,v31,v32⟩=>
 cond ((decide (v31 < ((List.length y7):Int))))
  (M.bind (M.bind (M.idx y7 v31) fun x36=>
  M.bind (M.det (vR c1 x36.dot)) fun v38=>
  cond v38
   (M.pure (((IntKind.i64.wrap (n30 + 1)),(AL.del v32 x36.dot))))
   (M.pure (n30,v32))) (fun ⟨n34,v35⟩=>
  M.pure (.next ((n34,(IntKind.i64.wrap (v31 + 1)),v35)))))
  (M.pure (.done (n30,v32)))
def ZF (c1:List TPart) (ctx_2:List TPart) (nl3:Bool) (m4:List (TDot × TEvent)) (nl5:Bool) (m6:List (TDot × TEvent)):M (Int × Bool × (List (TDot × TEvent)) × Bool × (List (TDot × TEvent))):=
 M.bind (M.det (ym ctx_2 nl3 m4 nl5 m6)) fun y7=>
 M.bind (M.loop (yM y7 c1) (0,0,m6)) (fun ⟨n9,v10⟩=>
 M.bind (M.det (zi ctx_2 nl3 m4 nl5 v10)) fun y41=>
 M.bind (M.det (YO y41 c1 nl3 m4)) fun y43=>
 M.pure (n9,y43.1,y43.2,nl5,v10))

def vg (c1:List TPart):M Bool:=
 M.bind (M.det (xu c1)) fun v2=>
 M.bind (M.det (Uh c1 v2)) fun v4=>
 M.pure v4

def Zg (l1:List TEvent) (d2:TDot):Int -> M (M.Step Int (M.Ex Unit Bool)):=fun i16=>
 cond ((decide (i16 < (List.length l1:Int))))
  (M.bind (M.idx l1 i16) fun x18=>
  M.bind (M.det (Xn x18.kills d2)) fun v20=>
  cond v20
   (M.pure (.done (.ret true)))
   (M.pure (.next (IntKind.i64.wrap (i16 + 1)))))
  (M.pure (.done (.brk ())))
def Wa (l1:List TEvent) (d2:TDot):M Bool:=
 M.bind (M.loop (Zg l1 d2) 0) (M.exk (fun _=>
 M.pure false))

def Zh (l1:List TDot) (c2:List TPart):List TDot × Int -> M (M.Step (List TDot × Int) (List TDot)):=fun ⟨out28,i29⟩=>
 cond ((decide (i29 < (List.length l1:Int))))
  (M.bind (M.bind (M.idx l1 i29) fun x32=>
  M.bind (M.det (wi c2 x32)) fun v34=>
  cond (!v34)
   (M.bind (M.idx l1 i29) fun x37=>
   M.bind (M.det (un out28 x37)) fun v39=>
   M.pure v39)
   (M.pure out28)) (fun out31=>
  M.pure (.next ((out31,(IntKind.i64.wrap (i29 + 1)))))))
  (M.pure (.done out28))
def UC (l1:List TDot) (c2:List TPart):M (List TDot):=
 M.bind (M.loop (Zh l1 c2) (([]:List TDot),0)) (fun out3=>
 M.pure out3)

def Wb (b1:R18Book):M (List TEvent):=
 M.bind (M.det (WR b1.l 2)) fun v2=>
 M.pure v2

def XG (a1:List TPart) (b2:List TPart):M Bool:=
 M.bind (M.det (vY a1)) fun v3=>
 M.bind (M.det (vY b2)) fun v5=>
 M.bind (M.det (qy v3 v5)) fun v7=>
 M.pure v7

def uU (s1_1:List TDot) (s2_2:List TDot):Int -> M (M.Step Int (M.Ex Unit Bool)):=fun v17=>
 cond ((decide (v17 < (List.length s1_1:Int))))
  (M.bind (M.idx s1_1 v17) fun x19=>
  M.bind (M.idx s2_2 v17) fun x21=>
  cond ((!(decide (x19.dev = x21.dev) && decide (x19.n = x21.n))))
   (M.pure (.done (.ret false)))
   (M.pure (.next (IntKind.i64.wrap (v17 + 1)))))
  (M.pure (.done (.brk ())))
def yQ (s1_1:List TDot) (s2_2:List TDot):M Bool:=
 cond ((!decide ((List.length s1_1:Int) = (List.length s2_2:Int))))
  (M.pure false)
  (M.bind (M.loop (uU s1_1 s2_2) 0) (M.exk (fun _=>
  M.pure true)))

def UD (a1:List TDot) (b2:List TDot):M Bool:=
 M.bind (M.det (yQ a1 b2)) fun v3=>
 M.pure v3

def XH (a1:TEvent) (b2:TEvent):M Bool:=
 M.bind (cond (((decide (a1.dot.dev = b2.dot.dev) && decide (a1.dot.n = b2.dot.n))))
  (cond (decide (a1.kind = b2.kind))
   (cond (decide (a1.cid = b2.cid))
    (cond (decide (a1.field = b2.field))
     (cond (decide (a1.text = b2.text))
      (M.bind (M.det (UD a1.kills b2.kills)) fun v9=>
      M.pure v9)
      (M.pure false))
     (M.pure false))
    (M.pure false))
   (M.pure false))
  (M.pure false)) (fun v3=>
 M.pure v3)

def zH (s1_1:List TEvent) (s2_2:List TEvent):Int -> M (M.Step Int (M.Ex Unit Bool)):=fun v21=>
 cond ((decide (v21 < (List.length s1_1:Int))))
  (M.bind (M.idx s1_1 v21) fun x23=>
  M.bind (M.idx s2_2 v21) fun x25=>
  M.bind (M.det (XH x23 x25)) fun v27=>
  cond (!v27)
   (M.pure (.done (.ret false)))
   (M.pure (.next (IntKind.i64.wrap (v21 + 1)))))
  (M.pure (.done (.brk ())))
def zQ (s1_1:List TEvent) (s2_2:List TEvent):M Bool:=
 cond ((!decide ((List.length s1_1:Int) = (List.length s2_2:Int))))
  (M.pure false)
  (M.bind (M.loop (zH s1_1 s2_2) 0) (M.exk (fun _=>
  M.pure true)))

def YP (a1:List TEvent) (b2:List TEvent):M Bool:=
 M.bind (M.det (zQ a1 b2)) fun v3=>
 M.pure v3

def Zi (ctx_1:List TPart) (ctx_2:List TPart) (nl3:Bool) (m4:List (TDot × TEvent)) (nl5:Bool) (m6:List (TDot × TEvent)) (nl7:Bool) (m8:List (TDot × TEvent)) (nl9:Bool) (m10:List (TDot × TEvent)):M Bool:=
 M.bind (M.bind (M.det (yG ctx_1 nl3 m4 nl5 m6)) fun y12=>
 M.bind (M.det (yG ctx_2 nl7 m8 nl9 m10)) fun y14=>
 M.bind (M.det (XG y12 y14)) fun v16=>
 cond v16
  (M.bind (M.det (yT ctx_1 nl3 m4 nl5 m6)) fun y19=>
  M.bind (M.det (yT ctx_2 nl7 m8 nl9 m10)) fun y21=>
  M.bind (M.det (YP y19 y21)) fun v23=>
  M.pure v23)
  (M.pure false)) (fun v11=>
 M.pure v11)

def xy (c1:List TPart) (ctx_2:List TPart) (nl3:Bool) (m4:List (TDot × TEvent)) (nl5:Bool) (m6:List (TDot × TEvent)):M (List TPart):=
 M.bind (M.det (WZ ctx_2 c1)) fun v7=>
 M.pure v7

def UE (x1:R18Book) (ctx_2:List TPart) (nl3:Bool) (m4:List (TDot × TEvent)) (nl5:Bool) (m6:List (TDot × TEvent)):M Int:=
 M.bind (M.bind (M.det (yG ctx_2 nl3 m4 nl5 m6)) fun y8=>
 M.bind (M.det (xu x1.ctx)) fun v10=>
 M.bind (M.det (Uh y8 v10)) fun v12=>
 cond v12
  (M.bind (M.det (zi ctx_2 nl3 m4 nl5 m6)) fun y15=>
  M.bind (M.det (Yv x1)) fun v17=>
  M.bind (M.det (Xq y15 v17)) fun v19=>
  cond v19
   (M.bind (M.det (ym ctx_2 nl3 m4 nl5 m6)) fun y22=>
   M.bind (M.det (Wb x1)) fun v24=>
   M.bind (M.det (Xq y22 v24)) fun v26=>
   cond v26
    (M.bind (M.det (yT ctx_2 nl3 m4 nl5 m6)) fun y29=>
    M.bind (M.det (Xq y29 x1.l)) fun v31=>
    M.pure v31)
    (M.pure false))
   (M.pure false))
  (M.pure false)) (fun v7=>
 cond v7
  (M.pure 1)
  (M.pure 0))

def ZG (a1:List TPart) (b2:List TPart):M Bool:=
 M.bind (M.det (WX a1 b2)) fun v3=>
 M.pure ((decide (((List.length v3):Int) = 0)))

def xz (d1:TDelta):Int -> M (M.Step Int (M.Ex Unit Bool)):=fun v58=>
 cond ((decide (v58 < (List.length d1.events:Int))))
  (M.bind (M.idx d1.events v58) fun x60=>
  M.bind (M.bind (M.det (xf x60)) fun v63=>
  cond (!v63)
   (M.pure true)
   (M.bind (M.det (vR d1.from_ x60.dot)) fun v66=>
   M.pure v66)) (fun v62=>
  cond v62
   (M.pure (.done (.ret false)))
   (M.bind (cond (decide (0 < v58))
    (M.bind (M.idx d1.events (IntKind.i64.wrap (v58 - 1))) fun x71=>
    M.bind (M.det (um x71.dot x60.dot)) fun v73=>
    M.pure (decide (0 <= v73)))
    (M.pure false)) (fun v69=>
   cond v69
    (M.pure (.done (.ret false)))
    (M.bind (cond (decide (x60.kind = 1))
     (M.bind (M.det (xg d1.events x60.dot)) fun v78=>
     M.pure v78)
     (M.pure false)) (fun v76=>
    cond v76
     (M.pure (.done (.ret false)))
     (M.pure (.next (IntKind.i64.wrap (v58 + 1))))))))))
  (M.pure (.done (.brk ())))
def vr (d1:TDelta):M Bool:=
 M.bind (M.bind (M.det (XB d1.from_)) fun v3=>
 cond (!v3)
  (M.pure true)
  (M.bind (M.det (XB d1.to_)) fun v6=>
  cond (!v6)
   (M.pure true)
   (M.bind (M.det (ZG d1.from_ d1.to_)) fun v9=>
   cond (!v9)
    (M.pure true)
    (M.pure ((decide (4096 < (List.length d1.events:Int)))))))) (fun v2=>
 cond v2
  (M.pure false)
  (M.bind (M.loop (xz d1) 0) (M.exk (fun _=>
  M.bind (M.det (xh d1.events)) fun v81=>
  M.bind (M.det (ZB v81 d1.to_)) fun v83=>
  M.pure ((decide ((List.length v83:Int) = 0)))))))

def yn (e1:TEvent) (cv2:List TPart):M Bool:=
 M.bind (M.det (vR cv2 e1.dot)) fun v3=>
 M.pure v3

def zN (s1:List TEvent) (cv2:List TPart):Int -> M (M.Step Int (M.Ex Unit Int)):=fun v16=>
 cond ((decide (v16 < (List.length s1:Int))))
  (M.bind (M.idx s1 v16) fun x18=>
  M.bind (M.det (yn x18 cv2)) fun v20=>
  cond v20
   (M.pure (.done (.ret v16)))
   (M.pure (.next (IntKind.i64.wrap (v16 + 1)))))
  (M.pure (.done (.brk ())))
def zR (s1:List TEvent) (cv2:List TPart):M Int:=
 M.bind (M.loop (zN s1 cv2) 0) (M.exk (fun _=>
 M.pure (-1)))

def zK (cv1:List TPart):Int × Int × List TEvent -> M (M.Step (Int × Int × List TEvent) (Int × List TEvent)):=fun ⟨i31,j32,v33⟩=>
 cond ((decide (j32 < ((List.length v33):Int))))
  (M.bind (M.bind (M.idx v33 j32) fun x37=>
  M.bind (M.det (yn x37 cv1)) fun v39=>
  cond (!v39)
   (M.bind (M.idx v33 i31) fun x42=>
   M.pure (((IntKind.i64.wrap (i31 + 1)),(List.set v33 (Int.toNat i31) x37))))
   (M.pure (i31,v33))) (fun ⟨i35,v36⟩=>
  M.pure (.next ((i35,(IntKind.i64.wrap (j32 + 1)),v36)))))
  (M.pure (.done (i31,v33)))
def zO (cv1:List TPart) (row2:List TEvent):M (List TEvent):=
 M.bind (M.det (zR row2 cv1)) fun v3=>
 cond ((decide (v3 = (-1))))
  (M.pure row2)
  (M.bind (M.loop (zK cv1) ((v3,(IntKind.i64.wrap (v3 + 1)),row2))) (fun ⟨i6,v7⟩=>
  M.need ((0:Int) <= i6 /\ i6 <= (List.length v7:Int)) <|
  M.need ((Int.toNat i6) + (List.length v7 - Int.toNat i6) <= List.length v7) <|
  M.need ((0:Int) <= 0 /\ (0:Int) <= i6 /\ i6 <= (List.length ((List.take (Int.toNat i6) v7 ++ List.replicate (List.length v7 - Int.toNat i6) (⟨(⟨0,0⟩:TDot),0,0,0,(⟨#[]⟩:ByteArray),([]:List TDot)⟩:TEvent) ++ List.drop ((Int.toNat i6) + (List.length v7 - Int.toNat i6)) v7)):Int)) <|
  M.pure ((List.take (Int.toNat i6) ((List.take (Int.toNat i6) v7 ++ List.replicate (List.length v7 - Int.toNat i6) (⟨(⟨0,0⟩:TDot),0,0,0,(⟨#[]⟩:ByteArray),([]:List TDot)⟩:TEvent) ++ List.drop ((Int.toNat i6) + (List.length v7 - Int.toNat i6)) v7))))))

def xJ (from1:List TPart) (ctx_2:List TPart) (nl3:Bool) (m4:List (TDot × TEvent)) (nl5:Bool) (m6:List (TDot × TEvent)):M TDelta:=
 M.bind (M.det (yG ctx_2 nl3 m4 nl5 m6)) fun y7=>
 M.bind (M.det (UA from1 y7)) fun v9=>
 M.bind (M.det (yT ctx_2 nl3 m4 nl5 m6)) fun y11=>
 M.bind (M.det (zO from1 y11)) fun y13=>
 M.pure (⟨v9,y7,y13⟩:TDelta)

def yt (d1:TDelta):Int × List TPart × Bool × (List (TDot × TEvent)) × Bool × (List (TDot × TEvent)) -> M (M.Step (Int × List TPart × Bool × (List (TDot × TEvent)) × Bool × (List (TDot × TEvent))) (List TPart × Bool × (List (TDot × TEvent)) × Bool × (List (TDot × TEvent)))):=fun ⟨v36,v37,nl38,v39,nl40,v41⟩=>
 cond ((decide (v36 < (List.length d1.events:Int))))
  (M.bind (M.idx d1.events v36) fun x43=>
  M.bind (M.det (zt x43 v37 nl40 v41 nl38 v39)) fun y45=>
  M.pure (.next (((IntKind.i64.wrap (v36 + 1)),y45.2.1,y45.2.2.2.2.1,y45.2.2.2.2.2,y45.2.2.1,y45.2.2.2.1))))
  (M.pure (.done (v37,nl38,v39,nl40,v41)))
def yh (d1:TDelta) (ctx_2:List TPart) (nl3:Bool) (m4:List (TDot × TEvent)) (nl5:Bool) (m6:List (TDot × TEvent)):M (Int × List TPart × Bool × (List (TDot × TEvent)) × Bool × (List (TDot × TEvent))):=
 M.bind (M.det (vr d1)) fun v7=>
 cond (!v7)
  (M.pure (1,ctx_2,nl3,m4,nl5,m6))
  (M.bind (M.det (yG ctx_2 nl3 m4 nl5 m6)) fun y10=>
  M.bind (M.det (ZG d1.from_ y10)) fun v12=>
  cond (!v12)
   (M.pure (12,ctx_2,nl3,m4,nl5,m6))
   (M.bind (M.loop (yt d1) (0,ctx_2,nl5,m6,nl3,m4)) (fun ⟨v15,nl16,v17,nl18,v19⟩=>
   M.bind (M.det (xy d1.to_ v15 nl18 v19 nl16 v17)) fun y47=>
   M.pure (0,y47,nl18,v19,nl16,v17))))

def YQ :M Bool:=
 M.bind (M.det (Yj)) fun y1=>
 M.bind (M.det (Yj)) fun y3=>
 M.bind (M.det (zt (⟨(⟨1,1⟩:TDot),1,281474976710657,1,(⟨#[97]⟩:ByteArray),([]:List TDot)⟩:TEvent) y1.1 y1.2.1 y1.2.2.1 y1.2.2.2.1 y1.2.2.2.2)) fun y5=>
 M.bind (M.det (xJ ([]:List TPart) y5.2.1 y5.2.2.1 y5.2.2.2.1 y5.2.2.2.2.1 y5.2.2.2.2.2)) fun y7=>
 M.bind (M.det (yh y7 y3.1 y3.2.1 y3.2.2.1 y3.2.2.2.1 y3.2.2.2.2)) fun y9=>
 M.bind (M.det (yh y7 y9.2.1 y9.2.2.1 y9.2.2.2.1 y9.2.2.2.2.1 y9.2.2.2.2.2)) fun y11=>
 M.bind (cond (decide (y5.1 = 0))
  (cond (decide (y9.1 = 0))
   (cond (decide (y11.1 = 0))
    (cond ((decide ((List.length y7.events:Int) = 1)))
     (M.bind (M.det (zi y11.2.1 y11.2.2.1 y11.2.2.2.1 y11.2.2.2.2.1 y11.2.2.2.2.2)) fun y18=>
     cond ((decide (((List.length y18):Int) = 1)))
      (M.bind (M.det (Zi y5.2.1 y11.2.1 y5.2.2.1 y5.2.2.2.1 y5.2.2.2.2.1 y5.2.2.2.2.2 y11.2.2.1 y11.2.2.2.1 y11.2.2.2.2.1 y11.2.2.2.2.2)) fun y21=>
      M.pure y21)
      (M.pure false))
     (M.pure false))
    (M.pure false))
   (M.pure false))
  (M.pure false)) (fun v13=>
 M.pure v13)

def ug (b1:R18Book) (from2:List TPart):Int × List TEvent -> M (M.Step (Int × List TEvent) (List TEvent)):=fun ⟨i32,d33⟩=>
 cond ((decide (i32 < (List.length b1.l:Int))))
  (M.bind (M.bind (M.idx b1.l i32) fun x36=>
  M.bind (M.det (wi from2 x36.dot)) fun v38=>
  cond (!v38)
   (M.need ((List.length ([]:List TEvent) + List.length d33) * 80 <= 140737488355328) <|
   M.bind (M.idx b1.l i32) fun x42=>
   M.need ((List.length (([]:List TEvent) ++ d33) + List.length ([x42])) * 80 <= 140737488355328) <|
   M.pure (((([]:List TEvent) ++ d33) ++ [x42])))
   (M.pure d33)) (fun d35=>
  M.pure (.next (((IntKind.i64.wrap (i32 + 1)),d35)))))
  (M.pure (.done d33))
def Wc (b1:R18Book) (from2:List TPart):M TDelta:=
 M.bind (M.det (UB from2 b1.ctx)) fun v3=>
 M.bind (M.det (xu b1.ctx)) fun v5=>
 M.bind (M.loop (ug b1 from2) (0,([]:List TEvent))) (fun d7=>
 M.pure (⟨v3,v5,d7⟩:TDelta))

def We (a1:List TPart) (b2:List TPart):M Bool:=
 M.bind (M.det (xu a1)) fun v3=>
 M.bind (M.det (xu b2)) fun v5=>
 M.bind (M.det (Uh v3 v5)) fun v7=>
 M.pure v7

def Wf (a1:TDelta) (b2:TDelta):M Bool:=
 M.bind (M.bind (M.det (We a1.from_ b2.from_)) fun v4=>
 cond v4
  (M.bind (M.det (We a1.to_ b2.to_)) fun v7=>
  cond v7
   (M.bind (M.det (Xq a1.events b2.events)) fun v10=>
   M.pure v10)
   (M.pure false))
  (M.pure false)) (fun v3=>
 M.pure v3)

def ZH (a1:List TPart) (b2:List TPart):M Bool:=
 M.bind (M.det (WY a1 b2)) fun v3=>
 M.pure ((decide (((List.length v3):Int) = 0)))

def uE (d1:TDelta):Int -> M (M.Step Int (M.Ex Unit Bool)):=fun i66=>
 cond ((decide (i66 < (List.length d1.events:Int))))
  (M.bind (M.idx d1.events i66) fun x68=>
  M.bind (M.bind (M.det (Yu x68)) fun v71=>
  cond (!v71)
   (M.pure true)
   (cond (decide (0 < i66))
    (M.bind (M.idx d1.events (IntKind.i64.wrap (i66 - 1))) fun x75=>
    M.bind (M.det (ZW x75.dot x68.dot)) fun v77=>
    cond (decide (0 <= v77))
     (M.pure true)
     (M.bind (M.det (wi d1.from_ x68.dot)) fun v80=>
     cond v80
      (M.pure true)
      (cond (decide (x68.kind = 1))
       (M.bind (M.det (Wa d1.events x68.dot)) fun v84=>
       M.pure v84)
       (M.pure false))))
    (M.bind (M.det (wi d1.from_ x68.dot)) fun v86=>
    cond v86
     (M.pure true)
     (cond (decide (x68.kind = 1))
      (M.bind (M.det (Wa d1.events x68.dot)) fun v90=>
      M.pure v90)
      (M.pure false))))) (fun v70=>
  cond v70
   (M.pure (.done (.ret false)))
   (M.pure (.next (IntKind.i64.wrap (i66 + 1))))))
  (M.pure (.done (.brk ())))
def XI (d1:TDelta):M Bool:=
 M.bind (M.bind (M.det (vg d1.from_)) fun v3=>
 cond (!v3)
  (M.pure true)
  (M.bind (M.det (vg d1.to_)) fun v6=>
  cond (!v6)
   (M.pure true)
   (M.bind (M.det (ZH d1.from_ d1.to_)) fun v9=>
   cond (!v9)
    (M.pure true)
    (M.pure ((decide (4096 < (List.length d1.events:Int)))))))) (fun v2=>
 cond v2
  (M.pure false)
  (M.bind (M.loop (uE d1) 0) (M.exk (fun _=>
  M.bind (M.det (Za d1.events)) fun v93=>
  M.bind (M.det (UC v93 d1.to_)) fun v95=>
  M.pure ((decide ((List.length v95:Int) = 0)))))))

def XJ (a1:TDelta) (b2:TDelta):M Bool:=
 M.bind (M.bind (M.det (XG a1.from_ b2.from_)) fun v4=>
 cond v4
  (M.bind (M.det (XG a1.to_ b2.to_)) fun v7=>
  cond v7
   (M.bind (M.det (YP a1.events b2.events)) fun v10=>
   M.pure v10)
   (M.pure false))
  (M.pure false)) (fun v3=>
 M.pure v3)

def wG (l2:List TEvent):Int × List TPart × List TEvent -> M (M.Step (Int × List TPart × List TEvent) (List TPart × List TEvent)):=fun ⟨i24,b25,b26⟩=>
 cond ((decide (i24 < (List.length l2:Int))))
  (M.bind (M.bind (M.idx l2 i24) fun x30=>
  M.bind (M.det (uo (⟨b25,b26⟩:R18Book) x30)) fun v32=>
  cond (decide (v32.2 = 0))
   (M.pure (v32.1.ctx,v32.1.l))
   (M.pure (b25,b26))) (fun ⟨b28,b29⟩=>
  M.pure (.next (((IntKind.i64.wrap (i24 + 1)),b28,b29)))))
  (M.pure (.done (b25,b26)))
def VL (b1:R18Book) (l2:List TEvent):M R18Book:=
 M.bind (M.loop (wG l2) (0,b1.ctx,b1.l)) (fun ⟨b3,b4⟩=>
 M.pure (⟨b3,b4⟩:R18Book))

def Wg (b1:R18Book) (d2:TDelta):M (R18Book × Int):=
 M.bind (M.det (XI d2)) fun v3=>
 cond (!v3)
  (M.pure (b1,1))
  (M.bind (M.det (ZH d2.from_ b1.ctx)) fun v6=>
  cond (!v6)
   (M.pure (b1,12))
   (M.bind (M.det (VL b1 d2.events)) fun v9=>
   M.bind (M.det (VJ v9 d2.to_)) fun v11=>
   M.pure (v11,0)))

def vh (l1:List L18Act) (from2:List TPart) (d3:TDelta):M Bool:=
 M.bind (M.bind (M.det (JW l1 20)) fun v5=>
 cond (decide (v5 = 0))
  (M.pure true)
  (M.bind (M.det (Xk from2)) fun v8=>
  cond (!v8)
   (M.pure true)
   (M.bind (M.det (JV d3)) fun v11=>
   M.pure (!v11)))) (fun v4=>
 cond v4
  (M.bind (M.det (YQ)) fun v14=>
  M.pure v14)
  (M.bind (M.det (qx l1)) fun v16=>
  M.bind (M.det (xu v16.ctx)) fun v18=>
  M.bind (M.det (xA v18 v16.l)) fun y20=>
  M.sum y20 (fun z22=>
   M.pure false) (fun z23=>
   M.bind (M.det (xJ from2 z23.1 z23.2.1 z23.2.2.1 z23.2.2.2.1 z23.2.2.2.2)) fun y24=>
   M.bind (M.det (Wc v16 from2)) fun v26=>
   M.bind (M.bind (M.det (Wf y24 v26)) fun v29=>
   cond (!v29)
    (M.pure true)
    (M.bind (M.det (vg y24.from_)) fun v32=>
    cond (!v32)
     (M.pure true)
     (M.bind (M.det (vg y24.to_)) fun v35=>
     cond (!v35)
      (M.pure true)
      (M.bind (M.det (vr d3)) fun v38=>
      M.bind (M.det (XI d3)) fun v40=>
      cond (!(v38 == v40))
       (M.pure true)
       (M.bind (M.det (vr y24)) fun v43=>
       M.bind (M.det (XI v26)) fun v45=>
       cond (!(v43 == v45))
        (M.pure true)
        (M.bind (M.det (XJ y24 d3)) fun v48=>
        M.bind (M.det (Wf v26 d3)) fun v50=>
        M.pure (!(v48 == v50)))))))) (fun v28=>
   cond v28
    (M.pure false)
    (M.bind (M.det (Wg v16 d3)) fun v53=>
    M.bind (M.bind (M.det (yh d3 z23.1 z23.2.1 z23.2.2.1 z23.2.2.2.1 z23.2.2.2.2)) fun y56=>
    cond (decide (y56.1 = v53.2))
     (M.bind (M.det (UE v53.1 y56.2.1 y56.2.2.1 y56.2.2.2.1 y56.2.2.2.2.1 y56.2.2.2.2.2)) fun y59=>
     cond (decide (y59 = 1))
      (M.bind (M.det (YQ)) fun v62=>
      M.pure v62)
      (M.pure false))
     (M.pure false)) (fun v55=>
    M.pure v55))))))
end Go.Ep

namespace Go.Proofs
open Go.Shelf
def Tryz.pdq192_ren : Go.Shelf.Ren:=⟨fun | 14=>192 | 20=>205 | 21=>206 | 22=>207 | 23=>208 | 24=>209 | 25=>210 | 26=>211 | 27=>212 | 46=>235 | 47=>236 | 48=>237 | 49=>238 | 50=>239 | 15=>193 | 57=>254 | 28=>213 | 29=>214 | n=>n,fun | 24=>69 | 22=>24 | 3=>3 | 25=>166 | 4=>4 | 0=>0 | 46=>212 | 45=>211 | 50=>194 | 66=>232 | 39=>200 | 55=>64 | 70=>236 | 76=>247 | 77=>248 | 53=>218 | 5=>5 | 9=>9 | n=>n,fun | n=>n⟩
theorem Tryz.pdq192 : Go.Proofs.SlLaysF0.n14 Tryz.prog Tryz.pdq192_ren:={
 mixed:=by kernel_rfl
 f14:=⟨Tryz.f192.name,by decide,Tryz.func192.trans (congrArg some (by kernel_rfl))⟩
 f15:=Tryz.func193.trans (congrArg some (by kernel_rfl))
 f20:=⟨Tryz.f205.name,by decide,Tryz.func205.trans (congrArg some (by kernel_rfl))⟩
 f21:=⟨Tryz.f206.name,by decide,Tryz.func206.trans (congrArg some (by kernel_rfl))⟩
 f22:=⟨Tryz.f207.name,by decide,Tryz.func207.trans (congrArg some (by kernel_rfl))⟩
 f23:=⟨Tryz.f208.name,by decide,Tryz.func208.trans (congrArg some (by kernel_rfl))⟩
 f24:=⟨Tryz.f209.name,by decide,Tryz.func209.trans (congrArg some (by kernel_rfl))⟩
 f25:=⟨Tryz.f210.name,by decide,Tryz.func210.trans (congrArg some (by kernel_rfl))⟩
 f26:=⟨Tryz.f211.name,by decide,Tryz.func211.trans (congrArg some (by kernel_rfl))⟩
 f27:=⟨Tryz.f212.name,by decide,Tryz.func212.trans (congrArg some (by kernel_rfl))⟩
 f28:=Tryz.func213.trans (congrArg some (by kernel_rfl))
 f29:=Tryz.func214.trans (congrArg some (by kernel_rfl))
 f46:=⟨Tryz.f235.name,by decide,Tryz.func235.trans (congrArg some (by kernel_rfl))⟩
 f47:=Tryz.func236.trans (congrArg some (by kernel_rfl))
 f48:=Tryz.func237.trans (congrArg some (by kernel_rfl))
 f49:=⟨Tryz.f238.name,by decide,Tryz.func238.trans (congrArg some (by kernel_rfl))⟩
 f50:=⟨Tryz.f239.name,by decide,Tryz.func239.trans (congrArg some (by kernel_rfl))⟩
 f57:=⟨Tryz.f254.name,by decide,Tryz.func254.trans (congrArg some (by kernel_rfl))⟩
 t0:=Tryz.underlying0
 a0:=Tryz.isAgg0
 z0:=Tryz.sizeOf0
 v0:=Tryz.zeroValue0
 t3:=Tryz.underlying3
 a3:=Tryz.isAgg3
 z3:=Tryz.sizeOf3
 v3:=Tryz.zeroValue3
 t4:=Tryz.underlying4
 a4:=Tryz.isAgg4
 z4:=Tryz.sizeOf4
 v4:=Tryz.zeroValue4
 t5:=Tryz.underlying5
 a5:=Tryz.isAgg5
 z5:=Tryz.sizeOf5
 v5:=Tryz.zeroValue5
 t9:=Tryz.underlying9
 a9:=Tryz.isAgg9
 z9:=Tryz.sizeOf9
 v9:=Tryz.zeroValue9
 t22:=Tryz.underlying24
 a22:=Tryz.isAgg24
 z22:=Tryz.sizeOf24
 v22:=Tryz.zeroValue24
 t25:=Tryz.underlying166
 a25:=Tryz.isAgg166
 z25:=Tryz.sizeOf166
 v25:=Tryz.zeroValue166
 t39:=Tryz.underlying200
 a39:=Tryz.isAgg200
 z39:=Tryz.sizeOf200
 v39:=Tryz.zeroValue200
 t45:=Tryz.underlying211
 a45:=Tryz.isAgg211
 z45:=Tryz.sizeOf211
 v45:=Tryz.zeroValue211
 t46:=Tryz.underlying212
 a46:=Tryz.isAgg212
 z46:=Tryz.sizeOf212
 v46:=Tryz.zeroValue212
 t50:=Tryz.underlying194
 a50:=Tryz.isAgg194
 z50:=Tryz.sizeOf194
 v50:=Tryz.zeroValue194
 t53:=Tryz.underlying218
 a53:=Tryz.isAgg218
 z53:=Tryz.sizeOf218
 v53:=Tryz.zeroValue218
 t55:=Tryz.underlying64
 a55:=Tryz.isAgg64
 z55:=Tryz.sizeOf64
 v55:=Tryz.zeroValue64
 t66:=Tryz.underlying232
 a66:=Tryz.isAgg232
 z66:=Tryz.sizeOf232
 v66:=Tryz.zeroValue232
 t70:=Tryz.underlying236
 a70:=Tryz.isAgg236
 z70:=Tryz.sizeOf236
 v70:=Tryz.zeroValue236
 t76:=Tryz.underlying247
 a76:=Tryz.isAgg247
 z76:=Tryz.sizeOf247
 v76:=Tryz.zeroValue247
 t77:=Tryz.underlying248
 a77:=Tryz.isAgg248
 z77:=Tryz.sizeOf248
 v77:=Tryz.zeroValue248 }
def Tryz.pdq198_ren : Go.Shelf.Ren:=⟨fun | 14=>198 | 20=>217 | 21=>218 | 22=>219 | 23=>220 | 24=>221 | 25=>222 | 26=>223 | 27=>224 | 46=>248 | 47=>236 | 48=>237 | 49=>249 | 50=>250 | 15=>193 | 57=>258 | 28=>213 | 29=>214 | n=>n,fun | 24=>81 | 22=>22 | 3=>3 | 25=>172 | 4=>4 | 0=>0 | 46=>212 | 45=>211 | 50=>194 | 66=>232 | 39=>200 | 55=>64 | 70=>236 | 76=>247 | 77=>248 | 53=>218 | 5=>5 | 9=>9 | n=>n,fun | n=>n⟩
theorem Tryz.pdq198 : Go.Proofs.SlLaysF0.n14 Tryz.prog Tryz.pdq198_ren:={
 mixed:=by kernel_rfl
 f14:=⟨Tryz.f198.name,by decide,Tryz.func198.trans (congrArg some (by kernel_rfl))⟩
 f15:=Tryz.func193.trans (congrArg some (by kernel_rfl))
 f20:=⟨Tryz.f217.name,by decide,Tryz.func217.trans (congrArg some (by kernel_rfl))⟩
 f21:=⟨Tryz.f218.name,by decide,Tryz.func218.trans (congrArg some (by kernel_rfl))⟩
 f22:=⟨Tryz.f219.name,by decide,Tryz.func219.trans (congrArg some (by kernel_rfl))⟩
 f23:=⟨Tryz.f220.name,by decide,Tryz.func220.trans (congrArg some (by kernel_rfl))⟩
 f24:=⟨Tryz.f221.name,by decide,Tryz.func221.trans (congrArg some (by kernel_rfl))⟩
 f25:=⟨Tryz.f222.name,by decide,Tryz.func222.trans (congrArg some (by kernel_rfl))⟩
 f26:=⟨Tryz.f223.name,by decide,Tryz.func223.trans (congrArg some (by kernel_rfl))⟩
 f27:=⟨Tryz.f224.name,by decide,Tryz.func224.trans (congrArg some (by kernel_rfl))⟩
 f28:=Tryz.func213.trans (congrArg some (by kernel_rfl))
 f29:=Tryz.func214.trans (congrArg some (by kernel_rfl))
 f46:=⟨Tryz.f248.name,by decide,Tryz.func248.trans (congrArg some (by kernel_rfl))⟩
 f47:=Tryz.func236.trans (congrArg some (by kernel_rfl))
 f48:=Tryz.func237.trans (congrArg some (by kernel_rfl))
 f49:=⟨Tryz.f249.name,by decide,Tryz.func249.trans (congrArg some (by kernel_rfl))⟩
 f50:=⟨Tryz.f250.name,by decide,Tryz.func250.trans (congrArg some (by kernel_rfl))⟩
 f57:=⟨Tryz.f258.name,by decide,Tryz.func258.trans (congrArg some (by kernel_rfl))⟩
 t0:=Tryz.underlying0
 a0:=Tryz.isAgg0
 z0:=Tryz.sizeOf0
 v0:=Tryz.zeroValue0
 t3:=Tryz.underlying3
 a3:=Tryz.isAgg3
 z3:=Tryz.sizeOf3
 v3:=Tryz.zeroValue3
 t4:=Tryz.underlying4
 a4:=Tryz.isAgg4
 z4:=Tryz.sizeOf4
 v4:=Tryz.zeroValue4
 t5:=Tryz.underlying5
 a5:=Tryz.isAgg5
 z5:=Tryz.sizeOf5
 v5:=Tryz.zeroValue5
 t9:=Tryz.underlying9
 a9:=Tryz.isAgg9
 z9:=Tryz.sizeOf9
 v9:=Tryz.zeroValue9
 t22:=Tryz.underlying22
 a22:=Tryz.isAgg22
 z22:=Tryz.sizeOf22
 v22:=Tryz.zeroValue22
 t25:=Tryz.underlying172
 a25:=Tryz.isAgg172
 z25:=Tryz.sizeOf172
 v25:=Tryz.zeroValue172
 t39:=Tryz.underlying200
 a39:=Tryz.isAgg200
 z39:=Tryz.sizeOf200
 v39:=Tryz.zeroValue200
 t45:=Tryz.underlying211
 a45:=Tryz.isAgg211
 z45:=Tryz.sizeOf211
 v45:=Tryz.zeroValue211
 t46:=Tryz.underlying212
 a46:=Tryz.isAgg212
 z46:=Tryz.sizeOf212
 v46:=Tryz.zeroValue212
 t50:=Tryz.underlying194
 a50:=Tryz.isAgg194
 z50:=Tryz.sizeOf194
 v50:=Tryz.zeroValue194
 t53:=Tryz.underlying218
 a53:=Tryz.isAgg218
 z53:=Tryz.sizeOf218
 v53:=Tryz.zeroValue218
 t55:=Tryz.underlying64
 a55:=Tryz.isAgg64
 z55:=Tryz.sizeOf64
 v55:=Tryz.zeroValue64
 t66:=Tryz.underlying232
 a66:=Tryz.isAgg232
 z66:=Tryz.sizeOf232
 v66:=Tryz.zeroValue232
 t70:=Tryz.underlying236
 a70:=Tryz.isAgg236
 z70:=Tryz.sizeOf236
 v70:=Tryz.zeroValue236
 t76:=Tryz.underlying247
 a76:=Tryz.isAgg247
 z76:=Tryz.sizeOf247
 v76:=Tryz.zeroValue247
 t77:=Tryz.underlying248
 a77:=Tryz.isAgg248
 z77:=Tryz.sizeOf248
 v77:=Tryz.zeroValue248 }
def Tryz.pdq200_ren : Go.Shelf.Ren:=⟨fun | 14=>200 | 20=>226 | 21=>227 | 22=>228 | 23=>229 | 24=>230 | 25=>231 | 26=>232 | 27=>233 | 46=>251 | 47=>236 | 48=>237 | 49=>252 | 50=>253 | 15=>193 | 57=>259 | 28=>213 | 29=>214 | n=>n,fun | 24=>66 | 22=>67 | 3=>3 | 25=>100 | 4=>4 | 0=>0 | 46=>212 | 45=>211 | 50=>194 | 66=>232 | 39=>200 | 55=>64 | 70=>236 | 76=>247 | 77=>248 | 53=>218 | 5=>5 | 9=>9 | n=>n,fun | n=>n⟩
theorem Tryz.pdq200 : Go.Proofs.SlLaysF0.n14 Tryz.prog Tryz.pdq200_ren:={
 mixed:=by kernel_rfl
 f14:=⟨Tryz.f200.name,by decide,Tryz.func200.trans (congrArg some (by kernel_rfl))⟩
 f15:=Tryz.func193.trans (congrArg some (by kernel_rfl))
 f20:=⟨Tryz.f226.name,by decide,Tryz.func226.trans (congrArg some (by kernel_rfl))⟩
 f21:=⟨Tryz.f227.name,by decide,Tryz.func227.trans (congrArg some (by kernel_rfl))⟩
 f22:=⟨Tryz.f228.name,by decide,Tryz.func228.trans (congrArg some (by kernel_rfl))⟩
 f23:=⟨Tryz.f229.name,by decide,Tryz.func229.trans (congrArg some (by kernel_rfl))⟩
 f24:=⟨Tryz.f230.name,by decide,Tryz.func230.trans (congrArg some (by kernel_rfl))⟩
 f25:=⟨Tryz.f231.name,by decide,Tryz.func231.trans (congrArg some (by kernel_rfl))⟩
 f26:=⟨Tryz.f232.name,by decide,Tryz.func232.trans (congrArg some (by kernel_rfl))⟩
 f27:=⟨Tryz.f233.name,by decide,Tryz.func233.trans (congrArg some (by kernel_rfl))⟩
 f28:=Tryz.func213.trans (congrArg some (by kernel_rfl))
 f29:=Tryz.func214.trans (congrArg some (by kernel_rfl))
 f46:=⟨Tryz.f251.name,by decide,Tryz.func251.trans (congrArg some (by kernel_rfl))⟩
 f47:=Tryz.func236.trans (congrArg some (by kernel_rfl))
 f48:=Tryz.func237.trans (congrArg some (by kernel_rfl))
 f49:=⟨Tryz.f252.name,by decide,Tryz.func252.trans (congrArg some (by kernel_rfl))⟩
 f50:=⟨Tryz.f253.name,by decide,Tryz.func253.trans (congrArg some (by kernel_rfl))⟩
 f57:=⟨Tryz.f259.name,by decide,Tryz.func259.trans (congrArg some (by kernel_rfl))⟩
 t0:=Tryz.underlying0
 a0:=Tryz.isAgg0
 z0:=Tryz.sizeOf0
 v0:=Tryz.zeroValue0
 t3:=Tryz.underlying3
 a3:=Tryz.isAgg3
 z3:=Tryz.sizeOf3
 v3:=Tryz.zeroValue3
 t4:=Tryz.underlying4
 a4:=Tryz.isAgg4
 z4:=Tryz.sizeOf4
 v4:=Tryz.zeroValue4
 t5:=Tryz.underlying5
 a5:=Tryz.isAgg5
 z5:=Tryz.sizeOf5
 v5:=Tryz.zeroValue5
 t9:=Tryz.underlying9
 a9:=Tryz.isAgg9
 z9:=Tryz.sizeOf9
 v9:=Tryz.zeroValue9
 t22:=Tryz.underlying67
 a22:=Tryz.isAgg67
 z22:=Tryz.sizeOf67
 v22:=Tryz.zeroValue67
 t25:=Tryz.underlying100
 a25:=Tryz.isAgg100
 z25:=Tryz.sizeOf100
 v25:=Tryz.zeroValue100
 t39:=Tryz.underlying200
 a39:=Tryz.isAgg200
 z39:=Tryz.sizeOf200
 v39:=Tryz.zeroValue200
 t45:=Tryz.underlying211
 a45:=Tryz.isAgg211
 z45:=Tryz.sizeOf211
 v45:=Tryz.zeroValue211
 t46:=Tryz.underlying212
 a46:=Tryz.isAgg212
 z46:=Tryz.sizeOf212
 v46:=Tryz.zeroValue212
 t50:=Tryz.underlying194
 a50:=Tryz.isAgg194
 z50:=Tryz.sizeOf194
 v50:=Tryz.zeroValue194
 t53:=Tryz.underlying218
 a53:=Tryz.isAgg218
 z53:=Tryz.sizeOf218
 v53:=Tryz.zeroValue218
 t55:=Tryz.underlying64
 a55:=Tryz.isAgg64
 z55:=Tryz.sizeOf64
 v55:=Tryz.zeroValue64
 t66:=Tryz.underlying232
 a66:=Tryz.isAgg232
 z66:=Tryz.sizeOf232
 v66:=Tryz.zeroValue232
 t70:=Tryz.underlying236
 a70:=Tryz.isAgg236
 z70:=Tryz.sizeOf236
 v70:=Tryz.zeroValue236
 t76:=Tryz.underlying247
 a76:=Tryz.isAgg247
 z76:=Tryz.sizeOf247
 v76:=Tryz.zeroValue247
 t77:=Tryz.underlying248
 a77:=Tryz.isAgg248
 z77:=Tryz.sizeOf248
 v77:=Tryz.zeroValue248 }
def Tryz.pdq216_ren : Go.Shelf.Ren:=⟨fun | 14=>216 | 20=>240 | 21=>241 | 22=>242 | 23=>243 | 24=>244 | 25=>245 | 26=>246 | 27=>247 | 46=>255 | 47=>236 | 48=>237 | 49=>256 | 50=>257 | 15=>193 | 57=>260 | 28=>213 | 29=>214 | n=>n,fun | 24=>78 | 22=>79 | 3=>3 | 25=>204 | 4=>4 | 0=>0 | 46=>212 | 45=>211 | 50=>194 | 66=>232 | 39=>200 | 55=>64 | 70=>236 | 76=>247 | 77=>248 | 53=>218 | 5=>5 | 9=>9 | n=>n,fun | n=>n⟩
theorem Tryz.pdq216 : Go.Proofs.SlLaysF0.n14 Tryz.prog Tryz.pdq216_ren:={
 mixed:=by kernel_rfl
 f14:=⟨Tryz.f216.name,by decide,Tryz.func216.trans (congrArg some (by kernel_rfl))⟩
 f15:=Tryz.func193.trans (congrArg some (by kernel_rfl))
 f20:=⟨Tryz.f240.name,by decide,Tryz.func240.trans (congrArg some (by kernel_rfl))⟩
 f21:=⟨Tryz.f241.name,by decide,Tryz.func241.trans (congrArg some (by kernel_rfl))⟩
 f22:=⟨Tryz.f242.name,by decide,Tryz.func242.trans (congrArg some (by kernel_rfl))⟩
 f23:=⟨Tryz.f243.name,by decide,Tryz.func243.trans (congrArg some (by kernel_rfl))⟩
 f24:=⟨Tryz.f244.name,by decide,Tryz.func244.trans (congrArg some (by kernel_rfl))⟩
 f25:=⟨Tryz.f245.name,by decide,Tryz.func245.trans (congrArg some (by kernel_rfl))⟩
 f26:=⟨Tryz.f246.name,by decide,Tryz.func246.trans (congrArg some (by kernel_rfl))⟩
 f27:=⟨Tryz.f247.name,by decide,Tryz.func247.trans (congrArg some (by kernel_rfl))⟩
 f28:=Tryz.func213.trans (congrArg some (by kernel_rfl))
 f29:=Tryz.func214.trans (congrArg some (by kernel_rfl))
 f46:=⟨Tryz.f255.name,by decide,Tryz.func255.trans (congrArg some (by kernel_rfl))⟩
 f47:=Tryz.func236.trans (congrArg some (by kernel_rfl))
 f48:=Tryz.func237.trans (congrArg some (by kernel_rfl))
 f49:=⟨Tryz.f256.name,by decide,Tryz.func256.trans (congrArg some (by kernel_rfl))⟩
 f50:=⟨Tryz.f257.name,by decide,Tryz.func257.trans (congrArg some (by kernel_rfl))⟩
 f57:=⟨Tryz.f260.name,by decide,Tryz.func260.trans (congrArg some (by kernel_rfl))⟩
 t0:=Tryz.underlying0
 a0:=Tryz.isAgg0
 z0:=Tryz.sizeOf0
 v0:=Tryz.zeroValue0
 t3:=Tryz.underlying3
 a3:=Tryz.isAgg3
 z3:=Tryz.sizeOf3
 v3:=Tryz.zeroValue3
 t4:=Tryz.underlying4
 a4:=Tryz.isAgg4
 z4:=Tryz.sizeOf4
 v4:=Tryz.zeroValue4
 t5:=Tryz.underlying5
 a5:=Tryz.isAgg5
 z5:=Tryz.sizeOf5
 v5:=Tryz.zeroValue5
 t9:=Tryz.underlying9
 a9:=Tryz.isAgg9
 z9:=Tryz.sizeOf9
 v9:=Tryz.zeroValue9
 t22:=Tryz.underlying79
 a22:=Tryz.isAgg79
 z22:=Tryz.sizeOf79
 v22:=Tryz.zeroValue79
 t25:=Tryz.underlying204
 a25:=Tryz.isAgg204
 z25:=Tryz.sizeOf204
 v25:=Tryz.zeroValue204
 t39:=Tryz.underlying200
 a39:=Tryz.isAgg200
 z39:=Tryz.sizeOf200
 v39:=Tryz.zeroValue200
 t45:=Tryz.underlying211
 a45:=Tryz.isAgg211
 z45:=Tryz.sizeOf211
 v45:=Tryz.zeroValue211
 t46:=Tryz.underlying212
 a46:=Tryz.isAgg212
 z46:=Tryz.sizeOf212
 v46:=Tryz.zeroValue212
 t50:=Tryz.underlying194
 a50:=Tryz.isAgg194
 z50:=Tryz.sizeOf194
 v50:=Tryz.zeroValue194
 t53:=Tryz.underlying218
 a53:=Tryz.isAgg218
 z53:=Tryz.sizeOf218
 v53:=Tryz.zeroValue218
 t55:=Tryz.underlying64
 a55:=Tryz.isAgg64
 z55:=Tryz.sizeOf64
 v55:=Tryz.zeroValue64
 t66:=Tryz.underlying232
 a66:=Tryz.isAgg232
 z66:=Tryz.sizeOf232
 v66:=Tryz.zeroValue232
 t70:=Tryz.underlying236
 a70:=Tryz.isAgg236
 z70:=Tryz.sizeOf236
 v70:=Tryz.zeroValue236
 t76:=Tryz.underlying247
 a76:=Tryz.isAgg247
 z76:=Tryz.sizeOf247
 v76:=Tryz.zeroValue247
 t77:=Tryz.underlying248
 a77:=Tryz.isAgg248
 z77:=Tryz.sizeOf248
 v77:=Tryz.zeroValue248 }
def Tryz.bits193_ren : Go.Shelf.Ren:=⟨fun | 15=>193 | 28=>213 | 29=>214 | n=>n,fun | 39=>200 | 3=>3 | 53=>218 | 55=>64 | 4=>4 | 5=>5 | 9=>9 | n=>n,fun | n=>n⟩
theorem Tryz.bits193 : Go.Proofs.SlLaysF0.n15 Tryz.prog Tryz.bits193_ren:={
 mixed:=by kernel_rfl
 f15:=Tryz.func193.trans (congrArg some (by kernel_rfl))
 f28:=Tryz.func213.trans (congrArg some (by kernel_rfl))
 f29:=Tryz.func214.trans (congrArg some (by kernel_rfl))
 t3:=Tryz.underlying3
 a3:=Tryz.isAgg3
 z3:=Tryz.sizeOf3
 v3:=Tryz.zeroValue3
 t4:=Tryz.underlying4
 a4:=Tryz.isAgg4
 z4:=Tryz.sizeOf4
 v4:=Tryz.zeroValue4
 t5:=Tryz.underlying5
 a5:=Tryz.isAgg5
 z5:=Tryz.sizeOf5
 v5:=Tryz.zeroValue5
 t9:=Tryz.underlying9
 a9:=Tryz.isAgg9
 z9:=Tryz.sizeOf9
 v9:=Tryz.zeroValue9
 t39:=Tryz.underlying200
 a39:=Tryz.isAgg200
 z39:=Tryz.sizeOf200
 v39:=Tryz.zeroValue200
 t53:=Tryz.underlying218
 a53:=Tryz.isAgg218
 z53:=Tryz.sizeOf218
 v53:=Tryz.zeroValue218
 t55:=Tryz.underlying64
 a55:=Tryz.isAgg64
 z55:=Tryz.sizeOf64
 v55:=Tryz.zeroValue64 }
end Go.Proofs

namespace Go.Ep
open Go.Shelf Go.RowKit Go.Lib Go.Sort Go.Proofs

theorem SortLaw.of {α:Type} [Inhabited α] {P:Program} {f g:FuncId} {k:Nat} {enc:α -> List Value} {lt:α -> α -> Bool} {cf:α -> α -> Int} (hO:SWO (ltOf cf)) (hlt:∀ x y,ltOf cf x y = lt x y) (hk:∀ x,(enc x).length = k)
  (hnil:∀ w:World,Calls P f #[.slice none 0 0,.func (.func g) #[] #[]] w fun e w'=>e = .returned (.tuple #[]) /\ Go.RowKit.Below w.heap.size w w')
  (hrow:∀ (blk off cap:Nat) (d:Array α) (w:World),HoldsK enc k w blk off d -> blk < w.heap.size -> d.size < 4611686018427387904 ->
   Calls P f #[.slice (some ⟨blk,off,none⟩) d.size cap,.func (.func g) #[] #[]] w fun e w'=>e = .returned (.tuple #[]) /\ ∃ n os,w' = sortWorldK enc k w blk off n (pdq (ltOf cf) d 0 d.size (Lib.bitLen d.size) true true) os):SortLaw P f g k enc lt:=by
 refine ⟨hnil,fun w blk cap l T cur hh hlc hcs hlen hcells=>?_⟩;have hblk:blk < w.heap.size:=(Array.getElem?_eq_some_iff.1 hh).1;have hH:HoldsK enc k w blk 0 l.toArray:=by
  intro j hj;rw [size_flatK] at hj;have hj':j < l.length * k:=by simpa using hj
  obtain ⟨hk0,h1,h2,h3⟩:=WG hj'
  constructor
  ·rw [Nat.zero_add,za hh];show _ = some ((flatK enc k l.toArray)[j]!);rw [get_flatK _ _ _ _ hj];have hx:l[j / k]? = some l[j / k]:=List.getElem?_eq_getElem h1;have hlk:(enc l[j / k]).length = k:=hk _;have hu:(enc l[j / k])[j % k]? = some ((enc l[j / k])[j % k]'(by omega)):=List.getElem?_eq_getElem (by omega);have:=hcells (j / k) _ (j % k) _ hx hu;rw [h3] at this;rw [this];have e1:(l.toArray)[j / k]! = l[j / k]:=by simp [h1]
   rw [e1];simp [hu]
  ·simp [World.frozen?,hh]
 have hd:l.toArray.size = l.length:=by simp
 have hcall:=hrow blk 0 cap l.toArray w hH hblk (by simpa using hlen);rw [hd] at hcall;refine hcall.mono fun e w' ⟨he,n,os,hw⟩=>⟨he,?_⟩
 have hp:=pdq_sorts (ltOf cf) hO l.toArray 0 l.toArray.size (Lib.bitLen l.toArray.size) true true (Nat.zero_le _) (Nat.le_refl _) (Or.inl rfl);rw [hd] at hp
 generalize pdq (ltOf cf) l.toArray 0 l.length (Lib.bitLen l.length) true true = d' at hp hw
 obtain ⟨⟨hsz,_,hperm⟩,hsort⟩:=hp;have hsz':d'.size = l.length:=by simpa using hsz
 have hp':d'.toList.Perm l:=by
  have e1:(d'.extract 0 l.length).toList = d'.toList:=by rw [<- hsz'];simp
  have e2:(l.toArray.extract 0 l.length).toList = l:=by simp
  rw [e1,e2] at hperm;exact hperm
 have hmod:∀ b,b < w.heap.size -> (sortWorldK enc k w blk 0 n d' os).heap[b]? = if blk = b then (w.heap[b]?).map (onCells (putCells id 0 (flatK enc k d'))) else w.heap[b]?:=by
  intro b hb;have hb2:b < (putRowK enc k (Sort.ahead w n) blk 0 d').heap.size:=by simpa [putRowK,Sort.ahead] using hb
  show (grow (putRowK enc k (Sort.ahead w n) blk 0 d') os).heap[b]? = _;rw [Sort.heap_grow_old _ _ hb2];show ((w.heap.modify blk (onCells (putCells id 0 (flatK enc k d')))))[b]? = _;rw [Array.getElem?_modify]
 subst hw;refine ⟨d'.toList,(putCells id 0 (flatK enc k d') cur.toArray).toList,hp',?_,?_,?_,?_,rfl,rfl,rfl,?_,?_⟩
 ·rw [List.pairwise_iff_getElem];intro i j hi hj hij;have:=hsort i j (Nat.zero_le _) hij (by simpa [hsz'] using hj);rw [hlt] at this;have hi':i < d'.size:=by simpa using hi
  have hj':j < d'.size:=by simpa using hj
  simpa [hi',hj'] using this
 ·rw [hmod blk hblk,if_pos rfl,hh];simp [onCells]
 ·simp [putCells]
 ·intro i x j u hi hu;have hi':i < l.length:=by rw [<- hsz'];have:=(List.getElem?_eq_some_iff.1 hi).1;simpa using this
  have hj:j < k:=by rw [<- hk x];exact (List.getElem?_eq_some_iff.1 hu).1
  have hlt2:i * k + j < l.length * k:=uZ hi' hj;have hcl:l.length * k <= cur.length:=by rw [hcs];exact Nat.mul_le_mul_right k hlc
  have hin:i * k + j < d'.size * k:=by rw [hsz'];exact hlt2
  have hget:(flatK enc k d')[i * k + j]! = u:=by
   rw [get_flatK _ _ _ _ hin];have hk0:0 < k:=by omega
   have e1:(i * k + j) / k = i:=by rw [Nat.mul_comm,Nat.mul_add_div hk0,Nat.div_eq_of_lt hj];omega
   have e2:(i * k + j) % k = j:=by rw [Nat.mul_comm,Nat.mul_add_mod,Nat.mod_eq_of_lt hj]
   rw [e1,e2];have e3:d'[i]! = x:=by
    obtain ⟨h1,h2⟩:=List.getElem?_eq_some_iff.1 hi;have h1':i < d'.size:=by simpa using h1
    rw [getElem!_pos d' i h1'];simpa using h2
   rw [e3];simp [hu]
  have hc2:i * k + j < cur.length:=by omega
  simp only [putCells,Array.toList_mapIdx,List.getElem?_mapIdx];rw [List.getElem?_eq_getElem hc2];simp only [Option.map_some,id];rw [if_pos ⟨Nat.zero_le _,by rw [size_flatK];omega⟩,Nat.sub_zero,hget]
 ·show w.heap.size <= (grow (putRowK enc k (Sort.ahead w n) blk 0 d') os).heap.size;simp [grow,putRowK,Sort.ahead]
 ·intro b hb hne;rw [hmod b hb,if_neg (Ne.symm hne)]
end Go.Ep

