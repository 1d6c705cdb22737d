/- Side texts. -/
import Derived.Test.YthldiocaakcolaaGreatDoorProg
import Derived.Shelf.SlGeneric
import Derived.Shelf.SlLaysF0
import Derived.Ground.SlsfProg
import Derived.Shelf.SlSortCmp.WholeK
import Derived.Test.YthldiocaakcolaaGreatDoorMMr2
set_option linter.unusedVariables false
set_option linter.unusedSimpArgs false
namespace Go.Ep
open Go

def tabG : List Int:=[0,498536548,997073096,651767980,1994146192,1802195444,1303535960,1342533948,3988292384,4027552580,3604390888,3412177804,2607071920,2262029012,2685067896,3183342108]
def Zw (n1:Int):M Bool:=
 M.bind (cond (decide (0 < n1))
  (M.pure (decide (n1 <= 281474976710655)))
  (M.pure false)) (fun v2=>
 M.pure v2)

def wc (x1:Int):M Bool:=
 M.pure (!decide (x1 = x1))

def yq (x1:Int) (y2:Int):M Int:=
 M.bind (M.det (wc x1)) fun v3=>
 M.bind (M.det (wc y2)) fun v5=>
 cond v3
  (cond v5
   (M.pure 0)
   (M.pure (-1)))
  (cond v5
   (M.pure 1)
   (cond (decide (x1 < y2))
    (M.pure (-1))
    (cond (decide (y2 < x1))
     (M.pure 1)
     (M.pure 0))))

def vv (l1:List RN):Int × List RN -> M (M.Step (Int × List RN) (List RN)):=fun ⟨v23,some24⟩=>
 cond ((decide (v23 < (l1.length:Int))))
  (M.bind (M.bind (M.idx l1 v23) fun x27=>
  M.bind (cond (decide (0 < x27.lo))
   (cond (decide (x27.lo <= x27.hi))
    (M.pure (decide (x27.hi <= 281474976710655)))
    (M.pure false))
   (M.pure false)) (fun v29=>
  cond v29
   (M.yV ((some24.length + List.length ([x27])) * 16 <= 140737488355328) <|
   M.pure (some24 ++ [x27]))
   (M.pure some24))) (fun some26=>
  M.pure (.next (((IntKind.i64.wrap (v23 + 1)),some26)))))
  (M.pure (.done some24))
def vw (some2:List RN) (s34:List RN):Int × List RN -> M (M.Step (Int × List RN) (List RN)):=fun ⟨v69,out70⟩=>
 cond ((decide (v69 < ((some2.length):Int))))
  (M.bind (M.bind (M.idx s34 v69) fun x73=>
  M.bind (cond ((decide (0 <= ((IntKind.i64.wrap (((out70.length):Int) - 1))))))
   (M.bind (M.idx out70 ((IntKind.i64.wrap (((out70.length):Int) - 1)))) fun x77=>
   M.pure ((decide (x73.lo <= (IntKind.u64.wrap (x77.hi + 1))))))
   (M.pure false)) (fun v75=>
  cond v75
   (M.bind (M.idx out70 ((IntKind.i64.wrap (((out70.length):Int) - 1)))) fun x80=>
   M.bind (M.idx out70 ((IntKind.i64.wrap (((out70.length):Int) - 1)))) fun x82=>
   M.pure ((List.set out70 ((Int.toNat ((IntKind.i64.wrap (((out70.length):Int) - 1))))) (⟨x82.lo,(max x80.hi x73.hi)⟩:RN))))
   (M.yV ((out70.length + List.length ([x73])) * 16 <= 140737488355328) <|
   M.pure (out70 ++ [x73])))) (fun out72=>
  M.pure (.next (((IntKind.i64.wrap (v69 + 1)),out72)))))
  (M.pure (.done out70))
def xf (l1:List RN):M (List RN):=
 M.bind (M.loop (vv l1) (0,([]:List RN))) (fun some2=>
 M.yV (some2.length < 4611686018427387904)<|M.bind (M.srt qA some2) fun s34=>
 M.bind (M.loop (vw some2 s34) (0,([]:List RN))) (fun out38=>
 M.pure out38))

def wd (x1:Int):M Bool:=
 M.pure (!decide (x1 = x1))

def xV (x1:Int) (y2:Int):M Int:=
 M.bind (M.det (wd x1)) fun v3=>
 M.bind (M.det (wd y2)) fun v5=>
 cond v3
  (cond v5
   (M.pure 0)
   (M.pure (-1)))
  (cond v5
   (M.pure 1)
   (cond (decide (x1 < y2))
    (M.pure (-1))
    (cond (decide (y2 < x1))
     (M.pure 1)
     (M.pure 0))))

def ZY (m1:List (Int × List RN)):List Nat × List PT -> M (M.Step (List Nat × List PT) (List PT)):=fun ⟨seen28,c29⟩=>
 M.yV (∀ i ∈ seen28,i < m1.length)<|M.bind (M.nxt (m1.length) seen28) fun o=>match o with
 | none=>
  M.pure (.done c29)
 | some j30=>
  M.bind (M.idx m1 (Int.ofNat j30)) fun kv34=>
  M.bind (M.det (xf kv34.2)) fun v36=>
  cond ((decide (0 < ((v36.length):Int))))
   (M.yV ((c29.length + List.length ([(⟨kv34.1,v36⟩:PT)])) * 32 <= 140737488355328) <|
   M.pure (.next (((seen28 ++ [j30]),(c29 ++ [(⟨kv34.1,v36⟩:PT)])))))
   (M.pure (.next ((seen28 ++ [j30]),c29)))
def ut (m1:List (Int × List RN)):M (List PT):=
 M.bind (M.loop (ZY m1) ([],([]:List PT))) (fun c3=>
 M.yV (c3.length < 4611686018427387904)<|M.bind (M.srt qV c3) fun s41=>
 M.pure s41)

def zr (p:PT):Option (Int × List RN):=if 0 < p.dev then some (p.dev,p.runs) else none
def YV (c1:List PT):M (List (Int × List RN)):=
 M.yV (AL.growOK 16 (c1.length) (List.filterMap zr c1)) <|
 M.pure ((AL.grow ([]:List (Int × List RN)) (List.filterMap zr c1)))

def Xq (c1:List PT):M (List PT):=
 M.bind (M.det (YV c1)) fun v2=>
 M.bind (M.det (ut v2)) fun v5=>
 M.pure v5

def ZS (s1_1:List RN) (s2_2:List RN):Int -> M (M.Step Int (M.Ex Unit Bool)):=fun v17=>
 cond ((decide (v17 < (s1_1.length:Int))))
  (M.bind (M.idx s1_1 v17) fun x19=>
  M.bind (M.idx s2_2 v17) fun x21=>
  cond ((!(decide (x19.lo = x21.lo) && decide (x19.hi = x21.hi))))
   (M.pure (.done (.ret false)))
   (M.pure (.next (IntKind.i64.wrap (v17 + 1)))))
  (M.pure (.done (.brk ())))
def yW (s1_1:List RN) (s2_2:List RN):M Bool:=
 cond ((!decide ((s1_1.length:Int) = (s2_2.length:Int))))
  (M.pure false)
  (M.bind (M.loop (ZS s1_1 s2_2) 0) (M.exk (fun _=>
  M.pure true)))

def jp (x1:PT) (y2:PT):M Bool:=
 M.bind (cond (decide (x1.dev = y2.dev))
  (M.bind (M.det (yW x1.runs y2.runs)) fun v5=>
  M.pure v5)
  (M.pure false)) (fun v3=>
 M.pure v3)

def zb (s1_1:List PT) (s2_2:List PT):Int -> M (M.Step Int (M.Ex Unit Bool)):=fun v21=>
 cond ((decide (v21 < (s1_1.length:Int))))
  (M.bind (M.idx s1_1 v21) fun x23=>
  M.bind (M.idx s2_2 v21) fun x25=>
  M.bind (M.det (jp x23 x25)) fun v27=>
  cond (!v27)
   (M.pure (.done (.ret false)))
   (M.pure (.next (IntKind.i64.wrap (v21 + 1)))))
  (M.pure (.done (.brk ())))
def zd (s1_1:List PT) (s2_2:List PT):M Bool:=
 cond ((!decide ((s1_1.length:Int) = (s2_2.length:Int))))
  (M.pure false)
  (M.bind (M.loop (zb s1_1 s2_2) 0) (M.exk (fun _=>
  M.pure true)))

def wLa (a1:List PT) (b2:List PT):M Bool:=
 M.bind (M.det (zd a1 b2)) fun v3=>
 M.pure v3

def we (c1:List PT):M Bool:=
 M.bind (M.det (Xq c1)) fun v2=>
 M.bind (M.det (wLa c1 v2)) fun v4=>
 M.pure v4

def ZZ :List RN × List RN × List RN -> M (M.Step (List RN × List RN × List RN) (List RN)):=fun ⟨a53,b54,out55⟩=>
 M.bind (cond ((decide (0 < (a53.length:Int))))
  (M.pure ((decide (0 < (b54.length:Int)))))
  (M.pure false)) (fun v56=>
 cond v56
  (M.bind (M.idx a53 0) fun x59=>
  M.bind (M.idx b54 0) fun x61=>
  M.bind (M.idx a53 0) fun x63=>
  M.bind (M.idx b54 0) fun x65=>
  M.bind (cond ((decide ((max x59.lo x61.lo) <= (min x63.hi x65.hi))))
   (M.yV ((out55.length + List.length ([(⟨(max x59.lo x61.lo),(min x63.hi x65.hi)⟩:RN)])) * 16 <= 140737488355328) <|
   M.pure ((out55 ++ [(⟨(max x59.lo x61.lo),(min x63.hi x65.hi)⟩:RN)])))
   (M.pure out55)) (fun out67=>
  M.bind (M.idx a53 0) fun x70=>
  M.bind (M.idx b54 0) fun x72=>
  cond (decide (x70.hi < x72.hi))
   (M.yV ((0:Int) <= 1 /\ (1:Int) <= (a53.length:Int) /\ (a53.length:Int) <= (a53.length:Int)) <|
   M.pure (.next (((List.drop (Int.toNat 1) (List.take (Int.toNat (a53.length:Int)) a53)),b54,out67))))
   (M.yV ((0:Int) <= 1 /\ (1:Int) <= (b54.length:Int) /\ (b54.length:Int) <= (b54.length:Int)) <|
   M.pure (.next ((a53,(List.drop (Int.toNat 1) (List.take (Int.toNat (b54.length:Int)) b54)),out67))))))
  (M.pure (.done out55)))
def VJ (a1:List RN) (b2:List RN):M (List RN):=
 M.bind (M.det (xf a1)) fun v3=>
 M.bind (M.det (xf b2)) fun v5=>
 M.bind (M.loop ZZ (v3,v5,([]:List RN))) (fun out7=>
 M.pure out7)

def Za (v2:List RN):Int × Int × List RN -> M (M.Step (Int × Int × List RN) (Int × List RN)):=fun ⟨at17,v18,out19⟩=>
 cond ((decide (v18 < ((v2.length):Int))))
  (M.bind (M.idx v2 v18) fun x21=>
  M.yV ((out19.length + List.length ([(⟨at17,(IntKind.u64.wrap (x21.lo - 1))⟩:RN)])) * 16 <= 140737488355328) <|
  M.pure (.next (((IntKind.u64.wrap (x21.hi + 1)),(IntKind.i64.wrap (v18 + 1)),(out19 ++ [(⟨at17,(IntKind.u64.wrap (x21.lo - 1))⟩:RN)])))))
  (M.pure (.done (at17,out19)))
def VK (l1:List RN):M (List RN):=
 M.bind (M.det (xf l1)) fun v2=>
 M.bind (M.loop (Za v2) (1,0,([]:List RN))) (fun ⟨at4,out5⟩=>
 M.yV ((out5.length + List.length ([(⟨at4,281474976710655⟩:RN)])) * 16 <= 140737488355328) <|
 M.pure (out5 ++ [(⟨at4,281474976710655⟩:RN)]))

def Zx (a1:List RN) (b2:List RN):M (List RN):=
 M.bind (M.det (VK b2)) fun v3=>
 M.bind (M.det (VJ a1 v3)) fun v5=>
 M.pure v5

def vR (v6:List (Int × List RN)):List Nat × (List (Int × List RN)) -> M (M.Step (List Nat × (List (Int × List RN))) (List (Int × List RN))):=fun ⟨seen32,v33⟩=>
 M.yV (∀ i ∈ seen32,i < v33.length)<|M.bind (M.nxt (v33.length) seen32) fun o=>match o with
 | none=>
  M.pure (.done v33)
 | some j34=>
  M.bind (M.idx v33 (Int.ofNat j34)) fun kv38=>
  M.bind (M.det (Zx kv38.2 (AL.getZ v6 kv38.1 ([]:List RN)))) fun v40=>
  M.yV (AL.has v33 kv38.1 = true) <|
  M.pure (.next ((seen32 ++ [j34]),(AL.set v33 kv38.1 v40)))
def wj (a1:List PT) (b2:List PT):M (List PT):=
 M.bind (M.det (YV a1)) fun v3=>
 M.bind (M.det (YV b2)) fun v6=>
 M.bind (M.loop (vR v6) ([],v3)) (fun v9=>
 M.bind (M.det (ut v9)) fun v44=>
 M.pure v44)

def VL (a1:List PT) (b2:List PT):M (List PT):=
 M.bind (M.det (wj a1 b2)) fun v3=>
 M.pure v3

def uj (a1:List PT) (b2:List PT):M Bool:=
 M.bind (M.det (VL a1 b2)) fun v3=>
 M.pure ((decide (((v3.length):Int) = 0)))

def vT (a1:DT) (b2:DT):M Int:=
 M.bind (M.det (xV a1.dev b2.dev)) fun v3=>
 cond (!decide (v3 = 0))
  (M.pure v3)
  (M.bind (M.det (yq a1.n b2.n)) fun v6=>
  M.pure v6)

def Zb (d1:DT):M Bool:=
 M.bind (cond (decide (0 < d1.dev))
  (cond (decide (0 < d1.n))
   (M.pure (decide (d1.n <= 281474976710655)))
   (M.pure false))
  (M.pure false)) (fun v2=>
 M.pure v2)

def YW (v1:Int):M (Int × Int):=
 M.pure (((IntKind.u16.wrap (Int.fdiv v1 (2 ^ 48))),(ysa .u64 v1 281474976710655)))

def Xr (v1:Int):M (DT × Bool):=
 M.bind (M.det (YW v1)) fun v2=>
 M.bind (M.det (Zb (⟨v2.1,v2.2⟩:DT))) fun v4=>
 cond (!v4)
  (M.pure ((⟨0,0⟩:DT),false))
  (M.pure ((⟨v2.1,v2.2⟩:DT),true))

def Xs (f1:Int):M Bool:=
 M.bind (cond (decide (1 <= f1))
  (M.pure (decide (f1 <= 5)))
  (M.pure false)) (fun v2=>
 M.pure v2)

def vF (s1:ByteArray):Int -> M (M.Step Int (M.Ex Unit Bool)):=fun v20=>
 cond ((decide (v20 < (ByteArray.size s1:Int))))
  (M.bind (M.bind (M.idx (ya s1) v20) fun b23=>
  cond (decide (b23 < 32))
   (M.pure true)
   (M.bind (M.idx (ya s1) v20) fun b26=>
   M.pure (decide (126 < b26)))) (fun v22=>
  cond v22
   (M.pure (.done (.ret false)))
   (M.pure (.next (IntKind.i64.wrap (v20 + 1))))))
  (M.pure (.done (.brk ())))
def Xt (s1:ByteArray):M Bool:=
 cond ((decide (60 < (ByteArray.size s1:Int))))
  (M.pure false)
  (M.bind (M.loop (vF s1) 0) (M.exk (fun _=>
  M.pure true)))

def yr (l1:List DT):Int -> M (M.Step Int (M.Ex Unit Bool)):=fun v23=>
 cond ((decide (v23 < (l1.length:Int))))
  (M.bind (cond (decide (0 < v23))
   (M.bind (M.idx l1 (IntKind.i64.wrap (v23 - 1))) fun x27=>
   M.bind (M.idx l1 v23) fun x29=>
   M.bind (M.det (vT x27 x29)) fun v31=>
   M.pure (decide (0 <= v31)))
   (M.pure false)) (fun v25=>
  cond v25
   (M.pure (.done (.ret false)))
   (M.pure (.next (IntKind.i64.wrap (v23 + 1))))))
  (M.pure (.done (.brk ())))
def Xu (l1:List DT):M Bool:=
 M.bind (M.loop (yr l1) 0) (M.exk (fun _=>
 M.pure true))

def vG (e1:EV):Int -> M (M.Step Int (M.Ex Unit Bool)):=fun v43=>
 cond ((decide (v43 < (e1.kills.length:Int))))
  (M.bind (M.idx e1.kills v43) fun x45=>
  M.bind (M.bind (M.det (Zb x45)) fun v48=>
  cond (!v48)
   (M.pure true)
   (M.pure (((decide (x45.dev = e1.dot.dev) && decide (x45.n = e1.dot.n)))))) (fun v47=>
  cond v47
   (M.pure (.done (.ret false)))
   (M.pure (.next (IntKind.i64.wrap (v43 + 1))))))
  (M.pure (.done (.brk ())))
def uk (e1:EV):M Bool:=
 M.bind (M.det (Xr e1.cid)) fun v2=>
 M.bind (cond (!v2.2)
  (M.pure true)
  (M.bind (M.det (Zb e1.dot)) fun v6=>
  M.pure (!v6))) (fun v4=>
 cond v4
  (M.pure false)
  (M.bind (cond (decide (e1.kind = 1))
   (M.bind (M.bind (M.det (Xs e1.field)) fun v11=>
   cond (!v11)
    (M.pure true)
    (M.bind (M.det (Xt e1.text)) fun v14=>
    M.pure (!v14))) (fun v10=>
   cond v10
    (M.pure (.ret false))
    (M.pure (.brk ()))))
   (cond (decide (e1.kind = 2))
    (M.bind (cond (!decide (e1.field = 0))
     (M.pure true)
     (M.pure ((!decide (e1.text = (⟨#[]⟩:ByteArray)))))) (fun v18=>
    cond v18
     (M.pure (.ret false))
     (M.pure (.brk ()))))
    (M.pure (.ret false)))) (M.exk (fun _=>
  M.bind (cond ((decide (256 < (e1.kills.length:Int))))
   (M.pure true)
   (M.bind (M.det (Xu e1.kills)) fun v23=>
   M.pure (!v23))) (fun v21=>
  cond v21
   (M.pure false)
   (M.bind (M.loop (vG e1) 0) (M.exk (fun _=>
   M.pure true))))))))

def VM (c1:List PT) (dev2:Int):M (List RN):=
 M.bind (M.det (YV c1)) fun v3=>
 M.bind (M.det (xf (AL.getZ v3 dev2 ([]:List RN)))) fun v6=>
 M.pure v6

def uu (x1:RN) (n2:Int):M Int:=
 M.bind (M.det (yq x1.hi n2)) fun v3=>
 M.pure v3

def zc (x1:List RN) (target2:Int):Int × Int -> M (M.Step (Int × Int) Int):=fun ⟨i18,j19⟩=>
 cond (decide (i18 < j19))
  (M.bind (M.idx x1 ((IntKind.i64.wrap ((Int.fdiv ((IntKind.u64.wrap (IntKind.i64.wrap (i18 + j19)))) (2 ^ 1)))))) fun x21=>
  M.bind (M.det (uu x21 target2)) fun v23=>
  cond (decide (v23 < 0))
   (M.pure (.next (((IntKind.i64.wrap (((IntKind.i64.wrap ((Int.fdiv ((IntKind.u64.wrap (IntKind.i64.wrap (i18 + j19)))) (2 ^ 1))))) + 1)),j19))))
   (M.pure (.next ((i18,(IntKind.i64.wrap ((Int.fdiv ((IntKind.u64.wrap (IntKind.i64.wrap (i18 + j19)))) (2 ^ 1)))))))))
  (M.pure (.done i18))
def zU (x1:List RN) (target2:Int):M (Int × Bool):=
 M.bind (M.loop (zc x1 target2) (0,(x1.length:Int))) (fun i3=>
 M.bind (cond ((decide (i3 < (x1.length:Int))))
  (M.bind (M.idx x1 i3) fun x28=>
  M.bind (M.det (uu x28 target2)) fun v30=>
  M.pure (decide (v30 = 0)))
  (M.pure false)) (fun v26=>
 M.pure (i3,v26)))

def jA (l1:List RN) (n2:Int):M Bool:=
 M.bind (M.det (xf l1)) fun v3=>
 M.bind (M.det (zU v3 n2)) fun v5=>
 M.bind (cond ((decide (v5.1 < (v3.length:Int))))
  (M.bind (M.idx v3 v5.1) fun x9=>
  M.pure (decide (x9.lo <= n2)))
  (M.pure false)) (fun v7=>
 M.pure v7)

def Wp (c1:List PT) (d2:DT):M Bool:=
 M.bind (cond (decide (0 < d2.dev))
  (M.bind (M.det (VM c1 d2.dev)) fun v5=>
  M.bind (M.det (jA v5 d2.n)) fun v7=>
  M.pure v7)
  (M.pure false)) (fun v3=>
 M.pure v3)

def yL (s1:List DT) (v2:DT):Int -> M (M.Step Int (M.Ex Unit Int)):=fun v12=>
 cond ((decide (v12 < (s1.length:Int))))
  (M.bind (M.idx s1 v12) fun x14=>
  cond (((decide (v2.dev = x14.dev) && decide (v2.n = x14.n))))
   (M.pure (.done (.ret v12)))
   (M.pure (.next (IntKind.i64.wrap (v12 + 1)))))
  (M.pure (.done (.brk ())))
def xJ (s1:List DT) (v2:DT):M Int:=
 M.bind (M.loop (yL s1 v2) 0) (M.exk (fun _=>
 M.pure (-1)))

def yg (s1:List DT) (v2:DT):M Bool:=
 M.bind (M.det (xJ s1 v2)) fun v3=>
 M.pure (decide (0 <= v3))

def QR (l1:List DT) (d2:DT):M Bool:=
 M.bind (M.det (yg l1 d2)) fun v3=>
 M.pure v3

def Wq (e1:EV) (d2:DT):M Bool:=
 M.bind (M.det (QR e1.kills d2)) fun v3=>
 M.pure v3

def uW (l1:List EV) (d2:DT):Int -> M (M.Step Int (M.Ex Unit Bool)):=fun v16=>
 cond ((decide (v16 < (l1.length:Int))))
  (M.bind (M.idx l1 v16) fun x18=>
  M.bind (M.det (Wq x18 d2)) fun v20=>
  cond v20
   (M.pure (.done (.ret true)))
   (M.pure (.next (IntKind.i64.wrap (v16 + 1)))))
  (M.pure (.done (.brk ())))
def Xv (l1:List EV) (d2:DT):M Bool:=
 M.bind (M.loop (uW l1 d2) 0) (M.exk (fun _=>
 M.pure false))

def yX (s1:List DT):M (List DT):=
 M.bind (M.isNil s1) fun b2=>
 cond b2
  (M.pure ([]:List DT))
  (M.yV ((List.length ([]:List DT) + s1.length) * 16 <= 140737488355328) <|
  M.pure (([]:List DT) ++ s1))

def zk (row1:List DT) (k148:Int):Int × Int × List DT -> M (M.Step (Int × Int × List DT) (Int × List DT)):=fun ⟨k197,k2_198,v199⟩=>
 cond ((decide (k2_198 < ((((row1.length - Int.toNat k148):Nat):Int)))))
  (M.bind (M.yV ((0:Int) <= k2_198 /\ k2_198 < (((row1.length - Int.toNat k148):Nat):Int))<|M.bind (M.idx v199 ((((Int.toNat k148) + Int.toNat k2_198):Nat):Int)) fun x203=>
  M.yV ((0:Int) <= (IntKind.i64.wrap (k2_198 - 1)) /\ (IntKind.i64.wrap (k2_198 - 1)) < (((row1.length - Int.toNat k148):Nat):Int))<|M.bind (M.idx v199 ((((Int.toNat k148) + Int.toNat (IntKind.i64.wrap (k2_198 - 1))):Nat):Int)) fun x207=>
  cond ((!(decide (x203.dev = x207.dev) && decide (x203.n = x207.n))))
   (M.yV ((0:Int) <= k2_198 /\ k2_198 < (((row1.length - Int.toNat k148):Nat):Int))<|M.bind (M.idx v199 ((((Int.toNat k148) + Int.toNat k2_198):Nat):Int)) fun x212=>
   M.bind (M.idx v199 k197) fun x216=>
   M.pure (((IntKind.i64.wrap (k197 + 1)),(List.set v199 (Int.toNat k197) x212))))
   (M.pure (k197,v199))) (fun ⟨k201,v202⟩=>
  M.pure (.next ((k201,(IntKind.i64.wrap (k2_198 + 1)),v202)))))
  (M.pure (.done (k197,v199)))
def zl (row1:List DT):Int -> M (M.Step Int (M.Ex Unit (List DT))):=fun k148=>
 cond ((decide (k148 < ((row1.length):Int))))
  (M.bind (M.bind (M.idx row1 k148) fun x150=>
  M.bind (M.idx row1 (IntKind.i64.wrap (k148 - 1))) fun x152=>
  cond (((decide (x150.dev = x152.dev) && decide (x150.n = x152.n))))
   (M.yV ((0:Int) <= k148 /\ k148 <= (row1.length:Int)) <|
   M.bind (M.loop (zk row1 k148) (k148,1,row1)) (fun ⟨k156,v157⟩=>
   M.yV ((0:Int) <= k156 /\ k156 <= (v157.length:Int)) <|
   M.yV ((Int.toNat k156) + (v157.length - Int.toNat k156) <= v157.length) <|
   M.yV ((0:Int) <= 0 /\ (0:Int) <= k156 /\ k156 <= (List.length ((List.take (Int.toNat k156) v157 ++ List.replicate (v157.length - Int.toNat k156) (⟨0,0⟩:DT) ++ List.drop ((Int.toNat k156) + (v157.length - Int.toNat k156)) v157)):Int)) <|
   M.pure (.ret ((.done ((.ret (((List.take (Int.toNat k156) ((List.take (Int.toNat k156) v157 ++ List.replicate (v157.length - Int.toNat k156) (⟨0,0⟩:DT) ++ List.drop ((Int.toNat k156) + (v157.length - Int.toNat k156)) v157))))))))))))
   (M.pure (.brk ()))) (M.exk (fun _=>
  M.pure (.next (IntKind.i64.wrap (k148 + 1))))))
  (M.pure (.done (.brk ())))
def zt (row1:List DT):M (List DT):=
 cond ((decide (((row1.length):Int) < 2)))
  (M.pure row1)
  (M.bind (M.loop (zl row1) 1) (M.exk (fun _=>
  M.pure row1)))

def Xw (l1:List DT):M (List DT):=
 M.bind (M.det (yX l1)) fun v2=>
 M.yV (v2.length < 4611686018427387904)<|M.bind (M.srt zh v2) fun s4=>
 M.bind (M.det (zt s4)) fun y8=>
 M.pure y8

def uX (l1:List DT) (c2:List PT) (has3:Bool):Int × List DT -> M (M.Step (Int × List DT) (List DT)):=fun ⟨v23,out24⟩=>
 cond ((decide (v23 < (l1.length:Int))))
  (M.bind (M.bind (M.idx l1 v23) fun x27=>
  M.bind (M.det (Wp c2 x27)) fun v29=>
  cond (v29 == has3)
   (M.yV ((out24.length + List.length ([x27])) * 16 <= 140737488355328) <|
   M.pure (out24 ++ [x27]))
   (M.pure out24)) (fun out26=>
  M.pure (.next (((IntKind.i64.wrap (v23 + 1)),out26)))))
  (M.pure (.done out24))
def UN (l1:List DT) (c2:List PT) (has3:Bool):M (List DT):=
 M.bind (M.loop (uX l1 c2 has3) (0,([]:List DT))) (fun out4=>
 M.bind (M.det (Xw out4)) fun v33=>
 M.pure v33)

def Xx (l1:List DT) (c2:List PT):M (List DT):=
 M.bind (M.det (UN l1 c2 false)) fun v3=>
 M.pure v3

def uY (l1:List EV):Int × List DT -> M (M.Step (Int × List DT) (List DT)):=fun ⟨v15,out16⟩=>
 cond ((decide (v15 < (l1.length:Int))))
  (M.bind (M.idx l1 v15) fun x18=>
  M.yV ((out16.length + List.length ([x18.dot])) * 16 <= 140737488355328) <|
  M.yV ((List.length (out16 ++ [x18.dot]) + x18.kills.length) * 16 <= 140737488355328) <|
  M.pure (.next (((IntKind.i64.wrap (v15 + 1)),((out16 ++ [x18.dot]) ++ x18.kills)))))
  (M.pure (.done out16))
def Xy (l1:List EV):M (List DT):=
 M.bind (M.loop (uY l1) (0,([]:List DT))) (fun out2=>
 M.bind (M.det (Xw out2)) fun v22=>
 M.pure v22)

def vH (d1:DL):Int -> M (M.Step Int (M.Ex Unit Bool)):=fun v58=>
 cond ((decide (v58 < (d1.events.length:Int))))
  (M.bind (M.idx d1.events v58) fun x60=>
  M.bind (M.bind (M.det (uk x60)) fun v63=>
  cond (!v63)
   (M.pure true)
   (M.bind (M.det (Wp d1.from_ x60.dot)) fun v66=>
   M.pure v66)) (fun v62=>
  cond v62
   (M.pure (.done (.ret false)))
   (M.bind (cond (decide (0 < v58))
    (M.bind (M.idx d1.events (IntKind.i64.wrap (v58 - 1))) fun x71=>
    M.bind (M.det (vT x71.dot x60.dot)) fun v73=>
    M.pure (decide (0 <= v73)))
    (M.pure false)) (fun v69=>
   cond v69
    (M.pure (.done (.ret false)))
    (M.bind (cond (decide (x60.kind = 1))
     (M.bind (M.det (Xv d1.events x60.dot)) fun v78=>
     M.pure v78)
     (M.pure false)) (fun v76=>
    cond v76
     (M.pure (.done (.ret false)))
     (M.pure (.next (IntKind.i64.wrap (v58 + 1))))))))))
  (M.pure (.done (.brk ())))
def vU (d1:DL):M Bool:=
 M.bind (M.bind (M.det (we d1.from_)) fun v3=>
 cond (!v3)
  (M.pure true)
  (M.bind (M.det (we d1.to_)) fun v6=>
  cond (!v6)
   (M.pure true)
   (M.bind (M.det (uj d1.from_ d1.to_)) fun v9=>
   cond (!v9)
    (M.pure true)
    (M.pure ((decide (4096 < (d1.events.length:Int)))))))) (fun v2=>
 cond v2
  (M.pure false)
  (M.bind (M.loop (vH d1) 0) (M.exk (fun _=>
  M.bind (M.det (Xy d1.events)) fun v81=>
  M.bind (M.det (Xx v81 d1.to_)) fun v83=>
  M.pure ((decide ((v83.length:Int) = 0)))))))

def jq (d1:DL):M Bool:=
 M.bind (cond ((decide ((d1.from_.length:Int) = 0)))
  (M.pure ((decide ((d1.to_.length:Int) = 0))))
  (M.pure false)) (fun v2=>
 M.pure v2)

def VN (m1:TMsg):M Bool:=
 M.bind (cond (decide (m1.slot = 0))
  (cond (decide (m1.try_ = 0))
   (cond (decide (m1.why = 0))
    (cond ((decide ((m1.have_.length:Int) = 0)))
     (cond ((decide ((m1.front.length:Int) = 0)))
      (M.bind (M.det (jq m1.delta)) fun v8=>
      cond v8
       (M.pure ((decide ((m1.delta.events.length:Int) = 0))))
       (M.pure false))
      (M.pure false))
     (M.pure false))
    (M.pure false))
   (M.pure false))
  (M.pure false)) (fun v2=>
 M.pure v2)

def jr (m1:TMsg):M Bool:=
 M.bind (cond (decide (16 <= m1.slot))
  (M.pure true)
  (M.bind (M.det (Zw m1.try_)) fun v4=>
  M.pure (!v4))) (fun v2=>
 cond v2
  (M.pure false)
  (M.bind (cond (decide (m1.kind = 1))
   (cond (!decide (m1.dev = 0))
    (M.pure true)
    (M.pure (!decide (m1.epoch = 0))))
   (M.pure false)) (fun v7=>
  cond v7
   (M.pure false)
   (M.bind (cond (decide (m1.kind = 2))
    (M.bind (M.bind (M.det (vU m1.delta)) fun v16=>
    cond (!v16)
     (M.pure true)
     (M.pure ((decide (0 < (m1.delta.from_.length:Int)))))) (fun v15=>
    cond v15
     (M.pure (.ret false))
     (M.pure (.brk (([]:List PT),([]:List PT),([]:List EV))))))
    (M.pure (.brk (m1.delta.from_,m1.delta.to_,m1.delta.events)))) (M.exk (fun ⟨m11,m12,m13⟩=>
   M.bind (M.det (VN (⟨m1.kind,0,0,m1.dev,m1.epoch,m1.why,m1.have_,m1.front,(⟨m11,m12,m13⟩:DL)⟩:TMsg))) fun v20=>
   M.pure v20))))))

def jB (c1:List PT) (dev2:Int):M (List PT):=
 M.bind (M.det (VM c1 dev2)) fun v3=>
 M.bind (M.det (Xq ([(⟨dev2,v3⟩:PT)]))) fun v5=>
 M.pure v5

def jt (c1:List PT) (dev2:Int):M Bool:=
 M.bind (M.bind (M.det (we c1)) fun v4=>
 cond v4
  (M.bind (M.det (jB c1 dev2)) fun v7=>
  M.bind (M.det (uj c1 v7)) fun v9=>
  M.pure v9)
  (M.pure false)) (fun v3=>
 M.pure v3)

def uZ (l1:List EV) (dev2:Int) (have3:List PT):Int -> M (M.Step Int (M.Ex Unit Bool)):=fun v39=>
 cond ((decide (v39 < (l1.length:Int))))
  (M.bind (M.idx l1 v39) fun x41=>
  M.bind (M.bind (M.det (uk x41)) fun v44=>
  cond (!v44)
   (M.pure true)
   (cond (!decide (x41.dot.dev = dev2))
    (M.pure true)
    (M.bind (M.det (Wp have3 x41.dot)) fun v48=>
    cond v48
     (M.pure true)
     (cond (decide (0 < v39))
      (M.bind (M.idx l1 (IntKind.i64.wrap (v39 - 1))) fun x52=>
      M.bind (M.det (vT x52.dot x41.dot)) fun v54=>
      M.pure (decide (0 <= v54)))
      (M.pure false))))) (fun v43=>
  cond v43
   (M.pure (.done (.ret false)))
   (M.pure (.next (IntKind.i64.wrap (v39 + 1))))))
  (M.pure (.done (.brk ())))
def Xz (l1:List EV) (dev2:Int) (have3:List PT):M Bool:=
 M.bind (M.loop (uZ l1 dev2 have3) 0) (M.exk (fun _=>
 M.bind (cond ((decide (1 <= (l1.length:Int))))
  (M.pure ((decide ((l1.length:Int) <= 4))))
  (M.pure false)) (fun v57=>
 M.pure v57)))

def Zc (m1:TMsg):M Bool:=
 M.bind (cond (!decide (m1.kind = 1))
  (cond (decide (m1.dev = 0))
   (M.pure true)
   (M.bind (M.det (Zw m1.epoch)) fun v5=>
   M.pure (!v5)))
  (M.pure false)) (fun v2=>
 cond v2
  (M.pure false)
  (M.bind (M.bind (M.bind (cond (decide (m1.kind = 1))
   (M.pure (decide (m1.kind = 1)))
   (M.pure (decide (m1.kind = 2)))) (fun v14=>
  cond v14
   (M.bind (M.det (jr m1)) fun v17=>
   M.pure (.ret (.ret v17)))
   (cond (decide (m1.kind = 6))
    (M.bind (M.det (jt m1.have_ m1.dev)) fun v20=>
    cond (!v20)
     (M.pure (.ret (.ret false)))
     (M.pure (.brk ())))
    (M.bind (cond (decide (m1.kind = 3))
     (M.pure (decide (m1.kind = 3)))
     (M.pure (decide (m1.kind = 7)))) (fun v23=>
    cond v23
     (M.pure (.brk ()))
     (cond (decide (m1.kind = 4))
      (M.bind (M.bind (M.bind (M.det (vU m1.delta)) fun v28=>
      cond (!v28)
       (M.pure true)
       (M.bind (M.det (we m1.front)) fun v31=>
       cond (!v31)
        (M.pure true)
        (M.bind (M.det (uj m1.front m1.delta.to_)) fun v34=>
        M.pure (!v34)))) (fun v27=>
      cond v27
       (M.pure (.ret false))
       (M.pure (.brk (m1.why,m1.have_,([]:List PT),([]:List PT),([]:List PT),([]:List EV)))))) (fun z=>M.pure (.ret z)))
      (cond (decide (m1.kind = 5))
       (M.bind (M.bind (M.bind (M.det (jt m1.have_ m1.dev)) fun v39=>
       cond (!v39)
        (M.pure true)
        (M.bind (M.det (Xz m1.delta.events m1.dev m1.have_)) fun v42=>
        M.pure (!v42))) (fun v38=>
       cond v38
        (M.pure (.ret false))
        (M.pure (.brk (m1.why,([]:List PT),m1.front,m1.delta.from_,m1.delta.to_,([]:List EV)))))) (fun z=>M.pure (.ret z)))
       (cond (decide (m1.kind = 8))
        (M.pure (.ret (.brk (m1.why,m1.have_,m1.front,m1.delta.from_,m1.delta.to_,m1.delta.events))))
        (cond (decide (m1.kind = 9))
         (M.bind (M.bind (cond (!decide (m1.why = 1))
          (M.pure (!decide (m1.why = 2)))
          (M.pure false)) (fun v47=>
         cond v47
          (M.pure (.ret false))
          (M.pure (.brk (0,m1.have_,m1.front,m1.delta.from_,m1.delta.to_,m1.delta.events))))) (fun z=>M.pure (.ret z)))
         (M.pure (.ret (.ret false)))))))))))) (M.exk (fun _=>
  M.bind (M.det (we m1.have_)) fun v50=>
  cond (!v50)
   (M.pure (.ret false))
   (M.pure (.brk (m1.why,([]:List PT),m1.front,m1.delta.from_,m1.delta.to_,m1.delta.events)))))) (M.exk (fun ⟨m8,m9,m10,m11,m12,m13⟩=>
  M.bind (M.det (VN (⟨m1.kind,m1.slot,m1.try_,m1.dev,m1.epoch,m8,m9,m10,(⟨m11,m12,m13⟩:DL)⟩:TMsg))) fun v53=>
  M.pure v53))))

def Zd :Int × Int -> M (M.Step (Int × Int) Int):=fun ⟨v7,n8⟩=>
 cond (decide (0 < v7))
  (M.pure (.next (((Int.fdiv v7 (2 ^ 8)),(IntKind.i64.wrap (n8 + 1))))))
  (M.pure (.done n8))
def VO (v1:Int):M Int:=
 M.bind (M.loop Zd (v1,0)) (fun n2=>
 M.pure n2)

def WA (v1:Int) (i2:Int):M Int:=
 cond ((decide (7 < (IntKind.u64.wrap i2))))
  (M.pure 0)
  (M.yV ((0:Int) <= ((IntKind.u64.wrap (8 * (IntKind.u64.wrap i2))))) <|
  M.pure ((IntKind.u8.wrap ((Int.fdiv v1 (2 ^ (min (Int.toNat ((IntKind.u64.wrap (8 * (IntKind.u64.wrap i2))))) 64)))))))

def ua (v2:Int):Int × List Int -> M (M.Step (Int × List Int) (List Int)):=fun ⟨i19,v20⟩=>
 cond (decide (0 <= i19))
  (M.bind (M.det (WA v2 i19)) fun v22=>
  M.yV ((v20.length + List.length ([v22])) * 1 <= 140737488355328) <|
  M.pure (.next (((IntKind.i64.wrap (i19 - 1)),(v20 ++ [v22])))))
  (M.pure (.done v20))
def WB (b1:List Int) (v2:Int):M (List Int):=
 M.bind (M.det (VO v2)) fun v3=>
 M.yV ((0:Int) <= ((IntKind.i64.wrap (((IntKind.i64.wrap ((b1.length:Int) + v3))) + 1))) /\ ((IntKind.i64.wrap (((IntKind.i64.wrap ((b1.length:Int) + v3))) + 1))) * 1 <= 140737488355328) <|
 M.yV ((List.length ([]:List Int) + b1.length) * 1 <= 140737488355328) <|
 M.yV ((List.length (([]:List Int) ++ b1) + List.length ([(IntKind.u8.wrap v3)])) * 1 <= 140737488355328) <|
 M.bind (M.loop (ua v2) (((IntKind.i64.wrap (v3 - 1)),((([]:List Int) ++ b1) ++ [(IntKind.u8.wrap v3)])))) (fun v8=>
 M.pure v8)

def ju (b2:List Int):Int × Int -> M (M.Step (Int × Int) Int):=fun ⟨c16,v17⟩=>
 cond ((decide (v17 < (b2.length:Int))))
  (M.bind (M.idx b2 v17) fun x19=>
  M.yV ((0:Int) <= ((ysa .u32 (VI .u32 c16 (IntKind.u32.wrap x19)) 15)) /\ ((ysa .u32 (VI .u32 c16 (IntKind.u32.wrap x19)) 15)) < ((16:Nat):Int)) <|
  M.yV ((0:Int) <= ((ysa .u32 ((VI .u32 ((VI .u32 ((tabG.getD (Int.toNat ((ysa .u32 (VI .u32 c16 (IntKind.u32.wrap x19)) 15))) 0)) (Int.fdiv c16 (2 ^ 4)))) ((IntKind.u32.wrap (Int.fdiv x19 (2 ^ 4)))))) 15)) /\ ((ysa .u32 ((VI .u32 ((VI .u32 ((tabG.getD (Int.toNat ((ysa .u32 (VI .u32 c16 (IntKind.u32.wrap x19)) 15))) 0)) (Int.fdiv c16 (2 ^ 4)))) ((IntKind.u32.wrap (Int.fdiv x19 (2 ^ 4)))))) 15)) < ((16:Nat):Int)) <|
  M.pure (.next (((VI .u32 ((tabG.getD (Int.toNat ((ysa .u32 ((VI .u32 ((VI .u32 ((tabG.getD (Int.toNat ((ysa .u32 (VI .u32 c16 (IntKind.u32.wrap x19)) 15))) 0)) (Int.fdiv c16 (2 ^ 4)))) ((IntKind.u32.wrap (Int.fdiv x19 (2 ^ 4)))))) 15))) 0)) ((Int.fdiv ((VI .u32 ((tabG.getD (Int.toNat ((ysa .u32 (VI .u32 c16 (IntKind.u32.wrap x19)) 15))) 0)) (Int.fdiv c16 (2 ^ 4)))) (2 ^ 4)))),(IntKind.i64.wrap (v17 + 1))))))
  (M.pure (.done c16))
def WC (sum1:Int) (b2:List Int):M Int:=
 M.bind (M.loop (ju b2) ((VI .u32 4294967295 sum1),0)) (fun c3=>
 M.pure (VI .u32 4294967295 c3))

def Zy (parts1:List (List Int)):Int × Int -> M (M.Step (Int × Int) Int):=fun ⟨sum15,v16⟩=>
 cond ((decide (v16 < (parts1.length:Int))))
  (M.bind (M.idx parts1 v16) fun x18=>
  M.bind (M.det (WC sum15 x18)) fun v20=>
  M.pure (.next ((v20,(IntKind.i64.wrap (v16 + 1))))))
  (M.pure (.done sum15))
def zna (parts1:List (List Int)):M Int:=
 M.bind (M.loop (Zy parts1) (0,0)) (fun sum2=>
 M.pure sum2)

def YX (parts1:List (List Int)):M (Int × Int × Int × Int):=
 M.bind (M.det (zna parts1)) fun v2=>
 M.pure (((IntKind.u8.wrap v2),(IntKind.u8.wrap (Int.fdiv v2 (2 ^ 8))),(IntKind.u8.wrap (Int.fdiv v2 (2 ^ 16))),(IntKind.u8.wrap (Int.fdiv v2 (2 ^ 24)))))

def VP (kind1:Int) (body2:List Int):M (List Int):=
 M.yV ((0:Int) <= ((IntKind.i64.wrap ((body2.length:Int) + 5))) /\ ((IntKind.i64.wrap ((body2.length:Int) + 5))) * 1 <= 140737488355328) <|
 M.yV ((List.length ([]:List Int) + List.length ([kind1])) * 1 <= 140737488355328) <|
 M.yV ((List.length (([]:List Int) ++ [kind1]) + body2.length) * 1 <= 140737488355328) <|
 M.bind (M.det (YX ([((([]:List Int) ++ [kind1]) ++ body2)]))) fun v6=>
 M.yV ((List.length (((([]:List Int) ++ [kind1]) ++ body2)) + List.length ([v6.1,v6.2.1,v6.2.2.1,v6.2.2.2])) * 1 <= 140737488355328) <|
 M.pure ((((([]:List Int) ++ [kind1]) ++ body2) ++ [v6.1,v6.2.1,v6.2.2.1,v6.2.2.2]))

def yc (b1:List Int) (row2:List Int):M (List Int):=
 M.yV ((row2.length + b1.length) * 1 <= 140737488355328) <|
 M.pure (row2 ++ b1)

def zy (c1:Int) (row2:List Int):M (List Int):=
 M.bind (M.det (yc ([c1]) row2)) fun y3=>
 M.pure y3

def zO (v1:Int) (row2:List Int):M (List Int):=
 M.bind (M.det (WB ([]:List Int) v1)) fun v3=>
 M.bind (M.det (yc v3 row2)) fun y5=>
 M.pure y5

def xm (x79:PT):Int × List Int -> M (M.Step (Int × List Int) (List Int)):=fun ⟨v101,v102⟩=>
 cond ((decide (v101 < (x79.runs.length:Int))))
  (M.bind (M.idx x79.runs v101) fun x104=>
  M.bind (M.det (zO x104.lo v102)) fun y106=>
  M.bind (M.det (zO x104.hi y106)) fun y108=>
  M.pure (.next (((IntKind.i64.wrap (v101 + 1)),y108))))
  (M.pure (.done v102))
def xn (v3:List PT):Int × List Int -> M (M.Step (Int × List Int) (List Int)):=fun ⟨v75,v76⟩=>
 cond ((decide (v75 < ((v3.length):Int))))
  (M.bind (M.bind (M.idx v3 v75) fun x79=>
  M.bind (M.det (zO (IntKind.u64.wrap x79.dev) v76)) fun y81=>
  M.bind (M.det (zO (IntKind.u64.wrap (x79.runs.length:Int)) y81)) fun y83=>
  M.loop (xm x79) (0,y83)) (fun v78=>
  M.pure (.next (((IntKind.i64.wrap (v75 + 1)),v78)))))
  (M.pure (.done v76))
def yG (c1:List PT) (row2:List Int):M (List Int):=
 M.bind (M.det (Xq c1)) fun v3=>
 M.bind (M.det (zO ((IntKind.u64.wrap ((v3.length):Int))) row2)) fun y5=>
 M.loop (xn v3) (0,y5)

def wH (d1:DT) (row2:List Int):M (List Int):=
 M.bind (M.det (zO (IntKind.u64.wrap d1.dev) row2)) fun y3=>
 M.bind (M.det (zO d1.n y3)) fun y5=>
 M.pure y5

def xW (s1:ByteArray) (row2:List Int):M (List Int):=
 M.bind (M.det (zO (IntKind.u64.wrap (ByteArray.size s1:Int)) row2)) fun y3=>
 M.yV (ByteArray.size s1 <= 9223372036854775807) <|
 M.bind (M.det (yc (ya s1) y3)) fun y6=>
 M.pure y6

def yt (l1:List DT):Int × List DT -> M (M.Step (Int × List DT) (List DT)):=fun ⟨v22,some23⟩=>
 cond ((decide (v22 < (l1.length:Int))))
  (M.bind (M.bind (M.idx l1 v22) fun x26=>
  M.bind (M.det (Zb x26)) fun v28=>
  cond v28
   (M.yV ((some23.length + List.length ([x26])) * 16 <= 140737488355328) <|
   M.pure (some23 ++ [x26]))
   (M.pure some23)) (fun some25=>
  M.pure (.next (((IntKind.i64.wrap (v22 + 1)),some25)))))
  (M.pure (.done some23))
def xX (v32:List DT):Int × List Int -> M (M.Step (Int × List Int) (List Int)):=fun ⟨v48,v49⟩=>
 cond ((decide (v48 < ((v32.length):Int))))
  (M.bind (M.idx v32 v48) fun x51=>
  M.bind (M.det (wH x51 v49)) fun y53=>
  M.pure (.next (((IntKind.i64.wrap (v48 + 1)),y53))))
  (M.pure (.done v49))
def vI (l1:List DT) (row2:List Int):M (List Int):=
 M.bind (M.loop (yt l1) (0,([]:List DT))) (fun some3=>
 M.bind (M.det (Xw some3)) fun v32=>
 M.bind (M.det (zO ((IntKind.u64.wrap ((v32.length):Int))) row2)) fun y34=>
 M.loop (xX v32) (0,y34))

def YY (e1:EV) (row2:List Int):M (List Int):=
 M.bind (M.det (wH e1.dot row2)) fun y3=>
 M.bind (M.det (zy e1.kind y3)) fun y5=>
 M.bind (M.det (zO e1.cid y5)) fun y7=>
 M.bind (M.det (zy e1.field y7)) fun y9=>
 M.bind (M.det (xW e1.text y9)) fun y11=>
 M.bind (M.det (vI e1.kills y11)) fun y13=>
 M.pure y13

def xp (l1:List EV):Int × List Int -> M (M.Step (Int × List Int) (List Int)):=fun ⟨v17,v18⟩=>
 cond ((decide (v17 < (l1.length:Int))))
  (M.bind (M.idx l1 v17) fun x20=>
  M.bind (M.det (YY x20 v18)) fun y22=>
  M.pure (.next (((IntKind.i64.wrap (v17 + 1)),y22))))
  (M.pure (.done v18))
def xM (l1:List EV) (row2:List Int):M (List Int):=
 M.bind (M.det (zO (IntKind.u64.wrap (l1.length:Int)) row2)) fun y3=>
 M.loop (xp l1) (0,y3)

def yj (d1:DL) (row2:List Int):M (List Int):=
 M.bind (M.det (yG d1.from_ row2)) fun y3=>
 M.bind (M.det (yG d1.to_ y3)) fun y5=>
 M.bind (M.det (xM d1.events y5)) fun y7=>
 M.pure y7

def ye (row1:List Int):M (List Int × List Int):=
 M.yV (row1.length * 1 <= 140737488355328) <|
 M.pure (row1,row1)

def vy (m1:TMsg):M (List Int × Int):=
 M.bind (M.det (Zc m1)) fun v2=>
 cond (!v2)
  (M.pure (([]:List Int),1))
  (M.bind (cond (decide (m1.kind = 1))
   (M.pure true)
   (M.pure (decide (m1.kind = 2)))) (fun v5=>
  M.bind (cond v5
   (M.bind (M.det (zy m1.slot ([]:List Int))) fun y9=>
   M.bind (M.det (zO m1.try_ y9)) fun y11=>
   M.pure y11)
   (M.pure ([]:List Int))) (fun v7=>
  M.bind (cond (!decide (m1.kind = 1))
   (M.bind (M.det (zO (IntKind.u64.wrap m1.dev) v7)) fun y15=>
   M.bind (M.det (zO m1.epoch y15)) fun y17=>
   M.pure y17)
   (M.pure v7)) (fun v13=>
  M.bind (cond (decide (m1.kind = 9))
   (M.bind (M.det (zy m1.why v13)) fun y21=>
   M.pure y21)
   (M.bind (cond (decide (m1.kind = 3))
    (M.pure (decide (m1.kind = 3)))
    (cond (decide (m1.kind = 6))
     (M.pure (decide (m1.kind = 6)))
     (M.pure (decide (m1.kind = 7))))) (fun v23=>
   cond v23
    (M.bind (M.det (yG m1.have_ v13)) fun y27=>
    M.pure y27)
    (cond (decide (m1.kind = 2))
     (M.bind (M.det (yj m1.delta v13)) fun y30=>
     M.pure y30)
     (cond (decide (m1.kind = 4))
      (M.bind (M.det (yj m1.delta v13)) fun y33=>
      M.bind (M.det (yG m1.front y33)) fun y35=>
      M.pure y35)
      (cond (decide (m1.kind = 5))
       (M.bind (M.det (yG m1.have_ v13)) fun y38=>
       M.bind (M.det (xM m1.delta.events y38)) fun y40=>
       M.pure y40)
       (M.pure v13))))))) (fun v19=>
  M.bind (M.det (ye v19)) fun y42=>
  M.bind (M.det (VP m1.kind y42.1)) fun v44=>
  M.pure (v44,0))))))

def VQ (a1:List Int) (b2:List Int):M Bool:=
 M.pure ((decide ((XK a1) = (XK b2))))

def XU :M Bool:=
 M.bind (M.det (vy ((⟨8,0,0,1,2,0,([]:List PT),([]:List PT),(⟨([]:List PT),([]:List PT),([]:List EV)⟩:DL)⟩:TMsg)))) fun v1=>
 M.bind (cond (decide (v1.2 = 0))
  (cond ((decide ((v1.1.length:Int) = 9)))
   (M.yV ((0:Int) <= 0 /\ (0:Int) <= 5 /\ 5 <= (v1.1.length:Int)) <|
   M.bind (M.det (VQ ((List.drop (Int.toNat 0) (List.take (Int.toNat 5) v1.1))) ([8,1,1,1,2]))) fun v7=>
   M.pure v7)
   (M.pure false))
  (M.pure false)) (fun v3=>
 M.pure v3)

def VR (b1:List Int):M (Int × List Int × Int):=
 cond ((decide (((IntKind.i64.wrap ((b1.length:Int) - 4))) < 1)))
  (M.pure (0,([]:List Int),2))
  (M.yV ((0:Int) <= 0 /\ (0:Int) <= 1 /\ 1 <= (b1.length:Int)) <|
  M.yV ((0:Int) <= 1 /\ (1:Int) <= ((IntKind.i64.wrap ((b1.length:Int) - 4))) /\ ((IntKind.i64.wrap ((b1.length:Int) - 4))) <= (b1.length:Int)) <|
  M.bind (M.det (YX ([(List.drop (Int.toNat 0) (List.take (Int.toNat 1) b1)),(List.drop (Int.toNat 1) (List.take (Int.toNat ((IntKind.i64.wrap ((b1.length:Int) - 4)))) b1))]))) fun v5=>
  M.yV ((0:Int) <= ((IntKind.i64.wrap ((b1.length:Int) - 4))) /\ ((IntKind.i64.wrap ((b1.length:Int) - 4)):Int) <= (b1.length:Int) /\ (b1.length:Int) <= (b1.length:Int)) <|
  cond ((!decide ((XK [v5.1,v5.2.1,v5.2.2.1,v5.2.2.2]) = ((XK ((List.drop (Int.toNat ((IntKind.i64.wrap ((b1.length:Int) - 4)))) (List.take (Int.toNat (b1.length:Int)) b1))))))))
   (M.pure (0,([]:List Int),5))
   (M.bind (M.idx b1 0) fun x9=>
   M.yV ((0:Int) <= 1 /\ (1:Int) <= ((IntKind.i64.wrap ((b1.length:Int) - 4))) /\ ((IntKind.i64.wrap ((b1.length:Int) - 4))) <= (b1.length:Int)) <|
   M.yV (List.length ((List.drop (Int.toNat 1) (List.take (Int.toNat ((IntKind.i64.wrap ((b1.length:Int) - 4)))) b1))) * 1 <= 140737488355328) <|
   M.pure ((x9,(List.drop (Int.toNat 1) (List.take (Int.toNat ((IntKind.i64.wrap ((b1.length:Int) - 4)))) b1)),0))))

def uv (x7:Int) (at2:Int) (b1:List Int):Int × Int -> M (M.Step (Int × Int) Int):=fun ⟨v28,v29⟩=>
 cond ((decide (v29 < ((List.length ((List.drop (Int.toNat 0) (List.take (Int.toNat (IntKind.i64.wrap x7)) ((List.drop (Int.toNat (IntKind.i64.wrap (at2 + 1))) (List.take (Int.toNat (b1.length:Int)) b1)))))):Int)))))
  (M.bind (M.idx ((List.drop (Int.toNat 0) (List.take (Int.toNat (IntKind.i64.wrap x7)) ((List.drop (Int.toNat (IntKind.i64.wrap (at2 + 1))) (List.take (Int.toNat (b1.length:Int)) b1)))))) v29) fun x31=>
  M.pure (.next (((bOr .u64 (IntKind.u64.wrap (v28 * 2 ^ 8)) (IntKind.u64.wrap x31)),(IntKind.i64.wrap (v29 + 1))))))
  (M.pure (.done v28))
def jC (b1:List Int) (at2:Int):M (Int × Int × Int):=
 M.bind (cond (decide (at2 < 0))
  (M.pure true)
  (M.pure ((decide ((b1.length:Int) < at2))))) (fun v3=>
 cond v3
  (M.pure (0,0,1))
  (cond ((decide (at2 = (b1.length:Int))))
   (M.pure (0,0,2))
   (M.bind (M.idx b1 at2) fun x7=>
   M.yV ((0:Int) <= (IntKind.i64.wrap (at2 + 1)) /\ ((IntKind.i64.wrap (at2 + 1)):Int) <= (b1.length:Int) /\ (b1.length:Int) <= (b1.length:Int)) <|
   M.bind (cond ((decide (8 < (IntKind.i64.wrap x7))))
    (M.pure true)
    (cond ((decide (0 < (IntKind.i64.wrap x7))))
     (cond ((decide (0 < ((List.length ((List.drop (Int.toNat (IntKind.i64.wrap (at2 + 1))) (List.take (Int.toNat (b1.length:Int)) b1))):Int)))))
      (M.bind (M.idx ((List.drop (Int.toNat (IntKind.i64.wrap (at2 + 1))) (List.take (Int.toNat (b1.length:Int)) b1))) 0) fun x14=>
      M.pure (decide (x14 = 0)))
      (M.pure false))
     (M.pure false))) (fun v10=>
   cond v10
    (M.pure (0,0,4))
    (cond ((decide (((List.length ((List.drop (Int.toNat (IntKind.i64.wrap (at2 + 1))) (List.take (Int.toNat (b1.length:Int)) b1))):Int)) < (IntKind.i64.wrap x7))))
     (M.pure (0,0,2))
     (M.yV ((0:Int) <= 0 /\ (0:Int) <= (IntKind.i64.wrap x7) /\ (IntKind.i64.wrap x7) <= (List.length ((List.drop (Int.toNat (IntKind.i64.wrap (at2 + 1))) (List.take (Int.toNat (b1.length:Int)) b1))):Int)) <|
     M.bind (M.loop (uv x7 at2 b1) (0,0)) (fun v19=>
     M.pure ((v19,(IntKind.i64.wrap ((IntKind.i64.wrap (at2 + 1)) + (IntKind.i64.wrap x7))),0)))))))))

def WD (b1:List Int):M (List Int × Int):=
 M.yV (b1.length * 1 <= 140737488355328) <|
 M.pure (b1,0)

def zX (b_1:List Int) (bad_2:Int):M (Int × List Int × Int):=
 M.pure (bad_2,b_1,bad_2)

def uM (b_1:List Int) (bad_2:Int):M (Int × List Int × Int):=
 M.pure ((b_1.length:Int),b_1,bad_2)

def yR (b_1:List Int) (bad_2:Int):M (Int × List Int × Int):=
 M.bind (M.det (uM b_1 bad_2)) fun y3=>
 M.pure (y3.1,y3.2.1,y3.2.2)

def zL (e1:Int) (b_2:List Int) (bad_3:Int):M (List Int × Int):=
 M.bind (cond (decide (bad_3 = 0))
  (M.pure (!decide (e1 = 0)))
  (M.pure false)) (fun v4=>
 cond v4
  (M.pure (([]:List Int),e1))
  (M.pure (b_2,bad_3)))

def yk (n1:Int) (b_2:List Int) (bad_3:Int):M (List Int × List Int × Int):=
 M.yV ((0:Int) <= 0 /\ (0:Int) <= n1 /\ n1 <= (b_2.length:Int)) <|
 M.yV ((0:Int) <= n1 /\ (n1:Int) <= (b_2.length:Int) /\ (b_2.length:Int) <= (b_2.length:Int)) <|
 M.pure (((List.drop (Int.toNat 0) (List.take (Int.toNat n1) b_2)),(List.drop (Int.toNat n1) (List.take (Int.toNat (b_2.length:Int)) b_2)),bad_3))

def zj (b_1:List Int) (bad_2:Int):M (Int × List Int × Int):=
 M.bind (M.det (zX b_1 bad_2)) fun y3=>
 cond (!decide (y3.1 = 0))
  (M.pure (0,y3.2.1,y3.2.2))
  (M.bind (M.det (yR y3.2.1 y3.2.2)) fun y6=>
  cond (decide (y6.1 = 0))
   (M.bind (M.det (zL 2 y6.2.1 y6.2.2)) fun y9=>
   M.pure (0,y9.1,y9.2))
   (M.bind (M.det (yk 1 y6.2.1 y6.2.2)) fun y11=>
   M.bind (M.idx y11.1 0) fun x13=>
   M.pure (x13,y11.2.1,y11.2.2)))

def zS (b_1:List Int) (bad_2:Int):M (Int × List Int × Int):=
 M.bind (M.det (zX b_1 bad_2)) fun y3=>
 cond (!decide (y3.1 = 0))
  (M.pure (0,y3.2.1,y3.2.2))
  (M.bind (M.det (jC y3.2.1 0)) fun v6=>
  cond (!decide (v6.2.2 = 0))
   (M.bind (M.det (zL v6.2.2 y3.2.1 y3.2.2)) fun y9=>
   M.pure (0,y9.1,y9.2))
   (M.bind (M.det (yk v6.2.1 y3.2.1 y3.2.2)) fun y11=>
   M.pure (v6.1,y11.2.1,y11.2.2)))

def yI (most1:Int) (b_2:List Int) (bad_3:Int):M (Int × List Int × Int):=
 M.bind (M.det (zS b_2 bad_3)) fun y4=>
 cond (decide (most1 < y4.1))
  (M.bind (M.det (zL 4 y4.2.1 y4.2.2)) fun y7=>
  M.pure (0,y7.1,y7.2))
  (M.pure (y4.1,y4.2.1,y4.2.2))

def xB (y5:Int × List Int × Int):Int × List RN × List Int × Int -> M (M.Step (Int × List RN × List Int × Int) (List RN × List Int × Int)):=fun ⟨v32,v33,v34,v35⟩=>
 cond (decide (v32 < y5.1))
  (M.bind (M.det (zS v34 v35)) fun y37=>
  M.bind (M.det (zS y37.2.1 y37.2.2)) fun y39=>
  M.yV ((v33.length + List.length ([(⟨y37.1,y39.1⟩:RN)])) * 16 <= 140737488355328) <|
  M.bind (M.det (zX y39.2.1 y39.2.2)) fun y42=>
  cond (!decide (y42.1 = 0))
   (M.pure (.done ((((v33 ++ [(⟨y37.1,y39.1⟩:RN)]),y42.2.1,y42.2.2)))))
   (M.pure (.next (((IntKind.u64.wrap (v32 + 1)),(v33 ++ [(⟨y37.1,y39.1⟩:RN)]),y42.2.1,y42.2.2)))))
  (M.pure (.done (v33,v34,v35)))
def Ze (b_1:List Int) (bad_2:Int):M (PT × List Int × Int):=
 M.bind (M.det (yI 65535 b_1 bad_2)) fun y3=>
 M.bind (M.det (zS y3.2.1 y3.2.2)) fun y5=>
 M.bind (M.loop (xB y5) (0,([]:List RN),y5.2.1,y5.2.2)) (fun ⟨v7,v8,v9⟩=>
 M.pure (((⟨(IntKind.u16.wrap y3.1),v7⟩:PT),v8,v9)))

def xP (y3:Int × List Int × Int):Int × List PT × List Int × Int -> M (M.Step (Int × List PT × List Int × Int) (M.Ex (List PT × List Int × Int) (List PT × List Int × Int))):=fun ⟨v26,c27,v28,v29⟩=>
 cond (decide (v26 < y3.1))
  (M.bind (M.det (Ze v28 v29)) fun y31=>
  M.yV ((c27.length + List.length ([y31.1])) * 32 <= 140737488355328) <|
  M.bind (M.det (zX y31.2.1 y31.2.2)) fun y34=>
  cond (!decide (y34.1 = 0))
   (M.pure (.done ((.ret (([]:List PT),y34.2.1,y34.2.2)))))
   (M.pure (.next (((IntKind.u64.wrap (v26 + 1)),(c27 ++ [y31.1]),y34.2.1,y34.2.2)))))
  (M.pure (.done (.brk (c27,v28,v29))))
def xg (b_1:List Int) (bad_2:Int):M (List PT × List Int × Int):=
 M.bind (M.det (zS b_1 bad_2)) fun y3=>
 M.bind (M.loop (xP y3) (0,([]:List PT),y3.2.1,y3.2.2)) (M.exk (fun ⟨c5,v6,v7⟩=>
 M.bind (M.det (we c5)) fun v37=>
 cond (!v37)
  (M.bind (M.det (zL 4 v6 v7)) fun y40=>
  M.pure (([]:List PT),y40.1,y40.2))
  (M.pure (c5,v6,v7))))

def vV (b_1:List Int) (bad_2:Int):M (DT × List Int × Int):=
 M.bind (M.det (yI 65535 b_1 bad_2)) fun y3=>
 M.bind (M.det (zS y3.2.1 y3.2.2)) fun y5=>
 M.bind (M.det (Zb (⟨(IntKind.u16.wrap y3.1),y5.1⟩:DT))) fun v7=>
 M.bind (cond (!v7)
  (M.bind (M.det (zL 4 y5.2.1 y5.2.2)) fun y12=>
  M.pure (y12.1,y12.2))
  (M.pure (y5.2.1,y5.2.2))) (fun ⟨v9,v10⟩=>
 M.bind (M.det (zX v9 v10)) fun y14=>
 cond (!decide (y14.1 = 0))
  (M.pure ((⟨0,0⟩:DT),y14.2.1,y14.2.2))
  (M.pure (((⟨(IntKind.u16.wrap y3.1),y5.1⟩:DT),y14.2.1,y14.2.2))))

def yu (most1:Int) (b_2:List Int) (bad_3:Int):M (ByteArray × List Int × Int):=
 M.bind (M.det (zS b_2 bad_3)) fun y4=>
 M.bind (M.det (zX y4.2.1 y4.2.2)) fun y6=>
 cond (!decide (y6.1 = 0))
  (M.pure ((⟨#[]⟩:ByteArray),y6.2.1,y6.2.2))
  (cond ((decide ((IntKind.u64.wrap (max most1 0)) < y4.1)))
   (M.bind (M.det (zL 3 y6.2.1 y6.2.2)) fun y10=>
   M.pure ((⟨#[]⟩:ByteArray),y10.1,y10.2))
   (M.bind (M.det (yR y6.2.1 y6.2.2)) fun y12=>
   cond ((decide ((IntKind.u64.wrap y12.1) < y4.1)))
    (M.bind (M.det (zL 2 y12.2.1 y12.2.2)) fun y15=>
    M.pure ((⟨#[]⟩:ByteArray),y15.1,y15.2))
    (M.bind (M.det (yk (IntKind.i64.wrap y4.1) y12.2.1 y12.2.2)) fun y17=>
    M.pure ((XK y17.1),y17.2.1,y17.2.2))))

def xC (y4:Int × List Int × Int):Int × List DT × List Int × Int -> M (M.Step (Int × List DT × List Int × Int) (M.Ex (List DT × List Int × Int) (List DT × List Int × Int))):=fun ⟨v52,out53,v54,v55⟩=>
 cond (decide (v52 < y4.1))
  (M.bind (M.det (vV v54 v55)) fun y57=>
  M.bind (cond ((decide (0 <= ((IntKind.i64.wrap (((out53.length):Int) - 1))))))
   (M.bind (M.idx out53 ((IntKind.i64.wrap (((out53.length):Int) - 1)))) fun x61=>
   M.bind (M.det (vT x61 y57.1)) fun v63=>
   M.pure (decide (0 <= v63)))
   (M.pure false)) (fun v59=>
  M.bind (cond v59
   (M.bind (M.det (zL 4 y57.2.1 y57.2.2)) fun y68=>
   M.pure (y68.1,y68.2))
   (M.pure (y57.2.1,y57.2.2))) (fun ⟨v65,v66⟩=>
  M.bind (M.det (zX v65 v66)) fun y70=>
  cond (!decide (y70.1 = 0))
   (M.pure (.done ((.ret (([]:List DT),y70.2.1,y70.2.2)))))
   (M.yV ((out53.length + List.length ([y57.1])) * 16 <= 140737488355328) <|
   M.pure (.next (((IntKind.u64.wrap (v52 + 1)),(out53 ++ [y57.1]),y70.2.1,y70.2.2)))))))
  (M.pure (.done (.brk (out53,v54,v55))))
def vz (most1:Int) (b_2:List Int) (bad_3:Int):M (List DT × List Int × Int):=
 M.bind (M.det (zS b_2 bad_3)) fun y4=>
 cond ((decide ((IntKind.u64.wrap (max most1 0)) < y4.1)))
  (M.bind (M.det (zL 3 y4.2.1 y4.2.2)) fun y7=>
  M.pure (([]:List DT),y7.1,y7.2))
  (M.bind (M.loop (xC y4) (0,([]:List DT),y4.2.1,y4.2.2)) (M.exk (fun ⟨out9,v10,v11⟩=>
  M.pure (out9,v10,v11))))

def YZ (b_1:List Int) (bad_2:Int):M (EV × List Int × Int):=
 M.bind (M.det (vV b_1 bad_2)) fun y3=>
 M.bind (M.det (zj y3.2.1 y3.2.2)) fun y5=>
 M.bind (M.det (zS y5.2.1 y5.2.2)) fun y7=>
 M.bind (M.det (zj y7.2.1 y7.2.2)) fun y9=>
 M.bind (M.det (yu 60 y9.2.1 y9.2.2)) fun y11=>
 M.bind (M.det (vz 256 y11.2.1 y11.2.2)) fun y13=>
 M.bind (M.det (uk (⟨y3.1,y5.1,y7.1,y9.1,y11.1,y13.1⟩:EV))) fun v15=>
 M.bind (cond (!v15)
  (M.bind (M.det (zL 4 y13.2.1 y13.2.2)) fun y20=>
  M.pure (y20.1,y20.2))
  (M.pure (y13.2.1,y13.2.2))) (fun ⟨v17,v18⟩=>
 M.bind (M.det (zX v17 v18)) fun y22=>
 cond (!decide (y22.1 = 0))
  (M.pure (((⟨(⟨0,0⟩:DT),0,0,0,(⟨#[]⟩:ByteArray),([]:List DT)⟩:EV),y22.2.1,y22.2.2)))
  (M.pure ((⟨y3.1,y5.1,y7.1,y9.1,y11.1,y13.1⟩:EV),y22.2.1,y22.2.2)))

def yd (y4:Int × List Int × Int):Int × List EV × List Int × Int -> M (M.Step (Int × List EV × List Int × Int) (M.Ex (List EV × List Int × Int) (List EV × List Int × Int))):=fun ⟨v52,out53,v54,v55⟩=>
 cond (decide (v52 < y4.1))
  (M.bind (M.det (YZ v54 v55)) fun y57=>
  M.bind (cond ((decide (0 <= ((IntKind.i64.wrap (((out53.length):Int) - 1))))))
   (M.bind (M.idx out53 ((IntKind.i64.wrap (((out53.length):Int) - 1)))) fun x61=>
   M.bind (M.det (vT x61.dot y57.1.dot)) fun v63=>
   M.pure (decide (0 <= v63)))
   (M.pure false)) (fun v59=>
  M.bind (cond v59
   (M.bind (M.det (zL 4 y57.2.1 y57.2.2)) fun y68=>
   M.pure (y68.1,y68.2))
   (M.pure (y57.2.1,y57.2.2))) (fun ⟨v65,v66⟩=>
  M.bind (M.det (zX v65 v66)) fun y70=>
  cond (!decide (y70.1 = 0))
   (M.pure (.done ((.ret (([]:List EV),y70.2.1,y70.2.2)))))
   (M.yV ((out53.length + List.length ([y57.1])) * 80 <= 140737488355328) <|
   M.pure (.next (((IntKind.u64.wrap (v52 + 1)),(out53 ++ [y57.1]),y70.2.1,y70.2.2)))))))
  (M.pure (.done (.brk (out53,v54,v55))))
def wI (most1:Int) (b_2:List Int) (bad_3:Int):M (List EV × List Int × Int):=
 M.bind (M.det (zS b_2 bad_3)) fun y4=>
 cond ((decide ((IntKind.u64.wrap (max most1 0)) < y4.1)))
  (M.bind (M.det (zL 3 y4.2.1 y4.2.2)) fun y7=>
  M.pure (([]:List EV),y7.1,y7.2))
  (M.bind (M.loop (yd y4) (0,([]:List EV),y4.2.1,y4.2.2)) (M.exk (fun ⟨out9,v10,v11⟩=>
  M.pure (out9,v10,v11))))

def vJ (b_1:List Int) (bad_2:Int):M (DL × List Int × Int):=
 M.bind (M.det (xg b_1 bad_2)) fun y3=>
 M.bind (M.det (xg y3.2.1 y3.2.2)) fun y5=>
 M.bind (M.det (wI 4096 y5.2.1 y5.2.2)) fun y7=>
 M.bind (M.det (vU (⟨y3.1,y5.1,y7.1⟩:DL))) fun v9=>
 M.bind (cond (!v9)
  (M.bind (M.det (zL 4 y7.2.1 y7.2.2)) fun y14=>
  M.pure (y14.1,y14.2))
  (M.pure (y7.2.1,y7.2.2))) (fun ⟨v11,v12⟩=>
 M.bind (M.det (zX v11 v12)) fun y16=>
 cond (!decide (y16.1 = 0))
  (M.pure (((⟨([]:List PT),([]:List PT),([]:List EV)⟩:DL),y16.2.1,y16.2.2)))
  (M.pure ((⟨y3.1,y5.1,y7.1⟩:DL),y16.2.1,y16.2.2)))

def wO (kind1:Int) (b_2:List Int) (bad_3:Int):M (TMsg × List Int × Int):=
 M.bind (cond (decide (kind1 = 1))
  (M.pure true)
  (M.pure (decide (kind1 = 2)))) (fun v4=>
 M.bind (cond v4
  (M.bind (M.det (zj b_2 bad_3)) fun y11=>
  M.bind (M.det (zS y11.2.1 y11.2.2)) fun y13=>
  M.pure (y11.1,y13.1,y13.2.1,y13.2.2))
  (M.pure (0,0,b_2,bad_3))) (fun ⟨m6,m7,v8,v9⟩=>
 M.bind (cond (!decide (kind1 = 1))
  (M.bind (M.det (yI 65535 v8 v9)) fun y20=>
  M.bind (M.det (zS y20.2.1 y20.2.2)) fun y22=>
  M.pure ((IntKind.u16.wrap y20.1),y22.1,y22.2.1,y22.2.2))
  (M.pure (0,0,v8,v9))) (fun ⟨m15,m16,v17,v18⟩=>
 M.bind (cond (decide (kind1 = 9))
  (M.bind (M.det (zj v17 v18)) fun y33=>
  M.pure (y33.1,([]:List PT),([]:List PT),([]:List PT),([]:List PT),([]:List EV),y33.2.1,y33.2.2))
  (M.bind (cond (decide (kind1 = 3))
   (M.pure (decide (kind1 = 3)))
   (cond (decide (kind1 = 6))
    (M.pure (decide (kind1 = 6)))
    (M.pure (decide (kind1 = 7))))) (fun v35=>
  cond v35
   (M.bind (M.det (xg v17 v18)) fun y39=>
   M.pure (0,y39.1,([]:List PT),([]:List PT),([]:List PT),([]:List EV),y39.2.1,y39.2.2))
   (cond (decide (kind1 = 2))
    (M.bind (M.det (vJ v17 v18)) fun y42=>
    M.pure (0,([]:List PT),([]:List PT),y42.1.from_,y42.1.to_,y42.1.events,y42.2.1,y42.2.2))
    (cond (decide (kind1 = 4))
     (M.bind (M.det (vJ v17 v18)) fun y45=>
     M.bind (M.det (xg y45.2.1 y45.2.2)) fun y47=>
     M.pure (0,([]:List PT),y47.1,y45.1.from_,y45.1.to_,y45.1.events,y47.2.1,y47.2.2))
     (cond (decide (kind1 = 5))
      (M.bind (M.det (xg v17 v18)) fun y50=>
      M.bind (M.det (wI 4 y50.2.1 y50.2.2)) fun y52=>
      M.pure (0,y50.1,([]:List PT),([]:List PT),([]:List PT),y52.1,y52.2.1,y52.2.2))
      (M.pure (0,([]:List PT),([]:List PT),([]:List PT),([]:List PT),([]:List EV),v17,v18)))))))) (fun ⟨m24,m25,m26,m27,m28,m29,v30,v31⟩=>
 M.pure (((⟨kind1,m6,m7,m15,m16,m24,m25,m26,(⟨m27,m28,m29⟩:DL)⟩:TMsg),v30,v31))))))

def xq (b_1:List Int) (bad_2:Int):M (Int × List Int × Int):=
 M.bind (M.det (yR b_1 bad_2)) fun y3=>
 M.bind (cond (decide (0 < y3.1))
  (M.bind (M.det (zL 4 y3.2.1 y3.2.2)) fun y8=>
  M.pure (y8.1,y8.2))
  (M.pure (y3.2.1,y3.2.2))) (fun ⟨v5,v6⟩=>
 M.bind (M.det (zX v5 v6)) fun y10=>
 M.pure (y10.1,y10.2.1,y10.2.2))

def uA (b1:List Int):M (TMsg × Int):=
 M.bind (M.det (VR b1)) fun v2=>
 cond (!decide (v2.2.2 = 0))
  (M.pure (((⟨0,0,0,0,0,0,([]:List PT),([]:List PT),(⟨([]:List PT),([]:List PT),([]:List EV)⟩:DL)⟩:TMsg),v2.2.2)))
  (M.bind (cond (decide (v2.1 = 0))
   (M.pure true)
   (M.pure (decide (9 < v2.1)))) (fun v5=>
  cond v5
   (M.pure (((⟨0,0,0,0,0,0,([]:List PT),([]:List PT),(⟨([]:List PT),([]:List PT),([]:List EV)⟩:DL)⟩:TMsg),4)))
   (M.bind (M.det (WD v2.2.1)) fun y8=>
   M.bind (M.det (wO v2.1 y8.1 y8.2)) fun y10=>
   M.bind (M.det (xq y10.2.1 y10.2.2)) fun y12=>
   cond (!decide (y12.1 = 0))
    (M.pure (((⟨0,0,0,0,0,0,([]:List PT),([]:List PT),(⟨([]:List PT),([]:List PT),([]:List EV)⟩:DL)⟩:TMsg),y12.1)))
    (M.bind (M.det (Zc y10.1)) fun v15=>
    cond (!v15)
     (M.pure (((⟨0,0,0,0,0,0,([]:List PT),([]:List PT),(⟨([]:List PT),([]:List PT),([]:List EV)⟩:DL)⟩:TMsg),4)))
     (M.pure (y10.1,0))))))

def uHa (a1:List RN) (b2:List RN):Int -> M (M.Step Int (M.Ex Unit Bool)):=fun i17=>
 cond ((decide (i17 < (a1.length:Int))))
  (M.bind (M.idx a1 i17) fun x19=>
  M.bind (M.idx b2 i17) fun x21=>
  cond ((!(decide (x19.lo = x21.lo) && decide (x19.hi = x21.hi))))
   (M.pure (.done (.ret false)))
   (M.pure (.next (IntKind.i64.wrap (i17 + 1)))))
  (M.pure (.done (.brk ())))
def wMa (a1:List RN) (b2:List RN):M Bool:=
 cond ((!decide ((a1.length:Int) = (b2.length:Int))))
  (M.pure false)
  (M.bind (M.loop (uHa a1 b2) 0) (M.exk (fun _=>
  M.pure true)))

def VS (a1:List PT) (b2:List PT):Int -> M (M.Step Int (M.Ex Unit Bool)):=fun i33=>
 cond ((decide (i33 < (a1.length:Int))))
  (M.bind (M.bind (M.idx a1 i33) fun x36=>
  M.bind (M.idx b2 i33) fun x38=>
  cond (!decide (x36.dev = x38.dev))
   (M.pure true)
   (M.bind (M.idx a1 i33) fun x41=>
   M.bind (M.idx b2 i33) fun x43=>
   M.bind (M.det (wMa x41.runs x43.runs)) fun v45=>
   M.pure (!v45))) (fun v35=>
  cond v35
   (M.pure (.done (.ret false)))
   (M.pure (.next (IntKind.i64.wrap (i33 + 1))))))
  (M.pure (.done (.brk ())))
def qW (a1:List PT) (b2:List PT):M Bool:=
 cond ((!decide ((a1.length:Int) = (b2.length:Int))))
  (M.pure false)
  (M.bind (M.loop (VS a1 b2) 0) (M.exk (fun _=>
  M.pure true)))

def jv (x1:RN):M Bool:=
 M.bind (cond (decide (1 <= x1.lo))
  (cond (decide (x1.lo <= x1.hi))
   (M.pure (decide (x1.hi <= 281474976710655)))
   (M.pure false))
  (M.pure false)) (fun v2=>
 M.pure v2)

def WE (l1:List RN) (n2:Int):Int -> M (M.Step Int (M.Ex Unit Bool)):=fun i30=>
 cond ((decide (i30 < (l1.length:Int))))
  (M.bind (M.bind (M.idx l1 i30) fun x33=>
  M.bind (M.det (jv x33)) fun v35=>
  cond v35
   (M.bind (M.idx l1 i30) fun x38=>
   cond (decide (x38.lo <= n2))
    (M.bind (M.idx l1 i30) fun x41=>
    M.pure (decide (n2 <= x41.hi)))
    (M.pure false))
   (M.pure false)) (fun v32=>
  cond v32
   (M.pure (.done (.ret true)))
   (M.pure (.next (IntKind.i64.wrap (i30 + 1))))))
  (M.pure (.done (.brk ())))
def UO (l1:List RN) (n2:Int):M Bool:=
 M.bind (M.loop (WE l1 n2) 0) (M.exk (fun _=>
 M.pure false))

def WF (l1:List Int) (n2:Int):Bool × Int × List Int -> M (M.Step (Bool × Int × List Int) (Bool × List Int)):=fun ⟨done43,i44,out45⟩=>
 cond ((decide (i44 < (l1.length:Int))))
  (M.bind (M.bind (cond (!done43)
   (M.bind (M.idx l1 i44) fun x51=>
   M.pure (decide (n2 <= x51)))
   (M.pure false)) (fun v49=>
  M.bind (cond v49
   (M.yV ((out45.length + List.length ([n2])) * 8 <= 140737488355328) <|
   M.pure (true,(out45 ++ [n2])))
   (M.pure (done43,out45))) (fun ⟨done53,out54⟩=>
  M.bind (M.idx l1 i44) fun x57=>
  cond (!decide (x57 = n2))
   (M.bind (M.idx l1 i44) fun x60=>
   M.yV ((out54.length + List.length ([x60])) * 8 <= 140737488355328) <|
   M.pure (done53,(out54 ++ [x60])))
   (M.pure (done53,out54))))) (fun ⟨done47,out48⟩=>
  M.pure (.next ((done47,(IntKind.i64.wrap (i44 + 1)),out48)))))
  (M.pure (.done (done43,out45)))
def jw (l1:List Int) (n2:Int):M (List Int):=
 M.bind (M.loop (WF l1 n2) (false,0,([]:List Int))) (fun ⟨done3,out4⟩=>
 M.bind (cond (!done3)
  (M.yV ((out4.length + List.length ([n2])) * 8 <= 140737488355328) <|
  M.pure (out4 ++ [n2]))
  (M.pure out4)) (fun out63=>
 M.pure out63))

def ub (a1:List RN) (b2:List RN):List Int × Int -> M (M.Step (List Int × Int) (List Int)):=fun ⟨out38,i39⟩=>
 cond ((decide (i39 < (((List.length ((([]:List RN) ++ a1) ++ b2)):Int)))))
  (M.bind (M.bind (M.idx (((([]:List RN) ++ a1) ++ b2)) i39) fun x42=>
  M.bind (M.det (jv x42)) fun v44=>
  cond v44
   (M.bind (M.idx (((([]:List RN) ++ a1) ++ b2)) i39) fun x47=>
   M.bind (M.det (jw out38 x47.lo)) fun v49=>
   M.bind (M.idx (((([]:List RN) ++ a1) ++ b2)) i39) fun x51=>
   M.bind (M.det (jw v49 (IntKind.u64.wrap (x51.hi + 1)))) fun v53=>
   M.pure v53)
   (M.pure out38)) (fun out41=>
  M.pure (.next ((out41,(IntKind.i64.wrap (i39 + 1)))))))
  (M.pure (.done out38))
def WG (a1:List RN) (b2:List RN):M (List Int):=
 M.yV ((List.length ([]:List RN) + a1.length) * 16 <= 140737488355328) <|
 M.yV ((List.length (([]:List RN) ++ a1) + b2.length) * 16 <= 140737488355328) <|
 M.bind (M.loop (ub a1 b2) (([]:List Int),0)) (fun out5=>
 M.pure out5)

def WH (v4:List Int) (a1:List RN) (b2:List RN) (how3:Int):Int × List RN -> M (M.Step (Int × List RN) (List RN)):=fun ⟨i85,out86⟩=>
 cond ((decide ((IntKind.i64.wrap (i85 + 1)) < (v4.length:Int))))
  (M.bind (M.bind (M.idx v4 i85) fun x89=>
  M.bind (M.det (UO a1 x89)) fun v91=>
  M.bind (M.idx v4 i85) fun x93=>
  M.bind (M.det (UO b2 x93)) fun v95=>
  M.bind (cond v91
   (M.pure true)
   (M.pure v95)) (fun in97=>
  M.bind (cond (decide (how3 = 1))
   (M.bind (cond v91
    (M.pure v95)
    (M.pure false)) (fun in101=>
   M.pure in101))
   (M.pure in97)) (fun in99=>
  M.bind (cond (decide (how3 = 2))
   (M.bind (cond v91
    (M.pure (!v95))
    (M.pure false)) (fun in105=>
   M.pure in105))
   (M.pure in99)) (fun in103=>
  M.bind (cond in103
   (cond ((decide (0 <= ((IntKind.i64.wrap (((out86.length):Int) - 1))))))
    (M.bind (M.idx out86 ((IntKind.i64.wrap (((out86.length):Int) - 1)))) fun x110=>
    M.bind (M.idx v4 i85) fun x112=>
    M.pure ((decide ((IntKind.u64.wrap (x110.hi + 1)) = x112))))
    (M.pure false))
   (M.pure false)) (fun v107=>
  cond v107
   (M.bind (M.idx v4 (IntKind.i64.wrap (i85 + 1))) fun x115=>
   M.bind (M.idx out86 ((IntKind.i64.wrap (((out86.length):Int) - 1)))) fun x117=>
   M.pure ((List.set out86 ((Int.toNat ((IntKind.i64.wrap (((out86.length):Int) - 1))))) ((⟨x117.lo,(IntKind.u64.wrap (x115 - 1))⟩:RN)))))
   (cond in103
    (M.bind (M.idx v4 i85) fun x120=>
    M.bind (M.idx v4 (IntKind.i64.wrap (i85 + 1))) fun x122=>
    M.yV ((out86.length + List.length ([(⟨x120,(IntKind.u64.wrap (x122 - 1))⟩:RN)])) * 16 <= 140737488355328) <|
    M.pure ((out86 ++ [(⟨x120,(IntKind.u64.wrap (x122 - 1))⟩:RN)])))
    (M.pure out86))))))) (fun out88=>
  M.pure (.next (((IntKind.i64.wrap (i85 + 1)),out88)))))
  (M.pure (.done out86))
def UP (a1:List RN) (b2:List RN) (how3:Int):M (List RN):=
 M.bind (M.det (WG a1 b2)) fun v4=>
 M.bind (M.loop (WH v4 a1 b2 how3) (0,([]:List RN))) (fun out6=>
 M.pure out6)

def VT (a1:List RN) (b2:List RN):M (List RN):=
 M.bind (M.det (UP a1 b2 0)) fun v3=>
 M.pure v3

def Ya (c1:List PT) (dev2:Int):List RN × Int -> M (M.Step (List RN × Int) (List RN)):=fun ⟨out28,i29⟩=>
 cond ((decide (i29 < (c1.length:Int))))
  (M.bind (M.bind (M.bind (M.idx c1 i29) fun x33=>
  cond (decide (x33.dev = dev2))
   (M.pure (!decide (dev2 = 0)))
   (M.pure false)) (fun v32=>
  cond v32
   (M.bind (M.idx c1 i29) fun x37=>
   M.bind (M.det (VT out28 x37.runs)) fun v39=>
   M.pure v39)
   (M.pure out28))) (fun out31=>
  M.pure (.next ((out31,(IntKind.i64.wrap (i29 + 1)))))))
  (M.pure (.done out28))
def Yb (c1:List PT) (dev2:Int):M (List RN):=
 M.bind (M.loop (Ya c1 dev2) (([]:List RN),0)) (fun out3=>
 M.pure out3)

def vK (a1:DT) (b2:DT):M Int:=
 cond (((decide (a1.dev = b2.dev) && decide (a1.n = b2.n))))
  (M.pure 0)
  (M.bind (cond (decide (a1.dev < b2.dev))
   (M.pure true)
   (cond (decide (a1.dev = b2.dev))
    (M.pure (decide (a1.n < b2.n)))
    (M.pure false))) (fun v4=>
  cond v4
   (M.pure (-1))
   (M.pure 1)))

def WI (l1:List DT) (d2:DT):Int × List DT -> M (M.Step (Int × List DT) (List DT)):=fun ⟨i26,out27⟩=>
 cond ((decide (i26 < (l1.length:Int))))
  (M.bind (M.bind (M.idx l1 i26) fun x30=>
  M.bind (M.det (vK x30 d2)) fun v32=>
  cond (decide (v32 < 0))
   (M.bind (M.idx l1 i26) fun x35=>
   M.yV ((out27.length + List.length ([x35])) * 16 <= 140737488355328) <|
   M.pure (out27 ++ [x35]))
   (M.pure out27)) (fun out29=>
  M.pure (.next (((IntKind.i64.wrap (i26 + 1)),out29)))))
  (M.pure (.done out27))
def Zz (l1:List DT) (d2:DT):Int × List DT -> M (M.Step (Int × List DT) (List DT)):=fun ⟨i62,out63⟩=>
 cond ((decide (i62 < (l1.length:Int))))
  (M.bind (M.bind (M.idx l1 i62) fun x66=>
  M.bind (M.det (vK x66 d2)) fun v68=>
  cond (decide (0 < v68))
   (M.bind (M.idx l1 i62) fun x71=>
   M.yV ((out63.length + List.length ([x71])) * 16 <= 140737488355328) <|
   M.pure (out63 ++ [x71]))
   (M.pure out63)) (fun out65=>
  M.pure (.next (((IntKind.i64.wrap (i62 + 1)),out65)))))
  (M.pure (.done out63))
def Yc (l1:List DT) (d2:DT):M (List DT):=
 M.bind (M.loop (WI l1 d2) (0,([]:List DT))) (fun out3=>
 M.yV ((out3.length + List.length ([d2])) * 16 <= 140737488355328) <|
 M.bind (M.loop (Zz l1 d2) (0,(out3 ++ [d2]))) (fun out39=>
 M.pure out39))

def Yd (a1:List PT):List DT × Int -> M (M.Step (List DT × Int) (List DT)):=fun ⟨out16,i17⟩=>
 cond ((decide (i17 < (a1.length:Int))))
  (M.bind (M.idx a1 i17) fun x19=>
  M.bind (M.det (Yc out16 (⟨x19.dev,1⟩:DT))) fun v21=>
  M.pure (.next ((v21,(IntKind.i64.wrap (i17 + 1))))))
  (M.pure (.done out16))
def uw (b2:List PT):List DT × Int -> M (M.Step (List DT × Int) (List DT)):=fun ⟨out36,i37⟩=>
 cond ((decide (i37 < (b2.length:Int))))
  (M.bind (M.idx b2 i37) fun x39=>
  M.bind (M.det (Yc out36 (⟨x39.dev,1⟩:DT))) fun v41=>
  M.pure (.next ((v41,(IntKind.i64.wrap (i37 + 1))))))
  (M.pure (.done out36))
def jD (a1:List PT) (b2:List PT):M (List DT):=
 M.bind (M.loop (Yd a1) (([]:List DT),0)) (fun out3=>
 M.bind (M.loop (uw b2) (out3,0)) (fun out23=>
 M.pure out23))

def jE (a1:List RN) (b2:List RN):M (List RN):=
 M.bind (M.det (UP a1 b2 1)) fun v3=>
 M.pure v3

def VU (a1:List RN) (b2:List RN):M (List RN):=
 M.bind (M.det (UP a1 b2 2)) fun v3=>
 M.pure v3

def WJ (v4:List DT) (a1:List PT) (b2:List PT) (how3:Int):Int × List PT -> M (M.Step (Int × List PT) (List PT)):=fun ⟨i57,out58⟩=>
 cond ((decide (i57 < (v4.length:Int))))
  (M.bind (M.bind (M.idx v4 i57) fun x61=>
  M.bind (M.det (Yb a1 x61.dev)) fun v63=>
  M.bind (M.idx v4 i57) fun x65=>
  M.bind (M.det (Yb b2 x65.dev)) fun v67=>
  M.bind (M.det (VT v63 v67)) fun v69=>
  M.bind (cond (decide (how3 = 1))
   (M.bind (M.det (jE v63 v67)) fun v73=>
   M.pure v73)
   (M.pure v69)) (fun z71=>
  M.bind (cond (decide (how3 = 2))
   (M.bind (M.det (VU v63 v67)) fun v77=>
   M.pure v77)
   (M.pure z71)) (fun z75=>
  cond ((decide (0 < (z75.length:Int))))
   (M.bind (M.idx v4 i57) fun x80=>
   M.yV ((out58.length + List.length ([(⟨x80.dev,z75⟩:PT)])) * 32 <= 140737488355328) <|
   M.pure (out58 ++ [(⟨x80.dev,z75⟩:PT)]))
   (M.pure out58)))) (fun out60=>
  M.pure (.next (((IntKind.i64.wrap (i57 + 1)),out60)))))
  (M.pure (.done out58))
def jx (a1:List PT) (b2:List PT) (how3:Int):M (List PT):=
 M.bind (M.det (jD a1 b2)) fun v4=>
 M.bind (M.loop (WJ v4 a1 b2 how3) (0,([]:List PT))) (fun out6=>
 M.pure out6)

def WK (c1:List PT):M (List PT):=
 M.bind (M.det (jx c1 ([]:List PT) 0)) fun v2=>
 M.pure v2

def vL (a1:List PT) (b2:List PT):M Bool:=
 M.bind (M.det (WK a1)) fun v3=>
 M.bind (M.det (WK b2)) fun v5=>
 M.bind (M.det (qW v3 v5)) fun v7=>
 M.pure v7

def ul (n1:Int):M Bool:=
 M.bind (cond (decide (1 <= n1))
  (M.pure (decide (n1 <= 281474976710655)))
  (M.pure false)) (fun v2=>
 M.pure v2)

def vj (c1:List PT):M Bool:=
 M.bind (M.det (WK c1)) fun v2=>
 M.bind (M.det (qW c1 v2)) fun v4=>
 M.pure v4

def Ye (c1:List PT) (dev2:Int):M (List PT):=
 M.bind (M.det (Yb c1 dev2)) fun v3=>
 cond ((decide ((v3.length:Int) = 0)))
  (M.pure ([]:List PT))
  (M.pure ([(⟨dev2,v3⟩:PT)]))

def VV (a1:List PT) (b2:List PT):M (List PT):=
 M.bind (M.det (jx a1 b2 2)) fun v3=>
 M.pure v3

def um (a1:List PT) (b2:List PT):M Bool:=
 M.bind (M.det (VV a1 b2)) fun v3=>
 M.pure ((decide (((v3.length):Int) = 0)))

def uc (d1:DT):M Bool:=
 M.bind (cond (decide (1 <= d1.dev))
  (cond (decide (1 <= d1.n))
   (M.pure (decide (d1.n < 281474976710656)))
   (M.pure false))
  (M.pure false)) (fun v2=>
 M.pure v2)

def VW (v1:Int):M (Int × Int):=
 M.pure (((IntKind.u16.wrap (IntKind.u64.wrap (Int.tdiv v1 281474976710656))),(Int.tmod v1 281474976710656)))

def WL (v1:Int):M (DT × Bool):=
 M.bind (M.det (VW v1)) fun v2=>
 M.bind (M.det (uc (⟨v2.1,v2.2⟩:DT))) fun v4=>
 cond (!v4)
  (M.pure ((⟨0,0⟩:DT),false))
  (M.pure ((⟨v2.1,v2.2⟩:DT),true))

def jF (f1:Int):M Bool:=
 M.bind (cond (decide (1 <= f1))
  (M.pure (decide (f1 <= 5)))
  (M.pure false)) (fun v2=>
 M.pure v2)

def ux (s1:ByteArray):Int -> M (M.Step Int (M.Ex Unit Bool)):=fun i19=>
 cond ((decide (i19 < (ByteArray.size s1:Int))))
  (M.bind (M.bind (M.idx (ya s1) i19) fun b22=>
  cond (decide (b22 < 32))
   (M.pure true)
   (M.bind (M.idx (ya s1) i19) fun b25=>
   M.pure (decide (126 < b25)))) (fun v21=>
  cond v21
   (M.pure (.done (.ret false)))
   (M.pure (.next (IntKind.i64.wrap (i19 + 1))))))
  (M.pure (.done (.brk ())))
def jG (s1:ByteArray):M Bool:=
 M.bind (M.loop (ux s1) 0) (M.exk (fun _=>
 M.pure ((decide ((ByteArray.size s1:Int) <= 60)))))

def xr (l1:List DT):Int -> M (M.Step Int (M.Ex Unit Bool)):=fun i19=>
 cond ((decide (i19 < (l1.length:Int))))
  (M.bind (M.idx l1 (IntKind.i64.wrap (i19 - 1))) fun x21=>
  M.bind (M.idx l1 i19) fun x23=>
  M.bind (M.det (vK x21 x23)) fun v25=>
  cond (decide (0 <= v25))
   (M.pure (.done (.ret false)))
   (M.pure (.next (IntKind.i64.wrap (i19 + 1)))))
  (M.pure (.done (.brk ())))
def WM (l1:List DT):M Bool:=
 M.bind (M.loop (xr l1) 1) (M.exk (fun _=>
 M.pure true))

def WN (l1:List DT) (d2:DT):Int -> M (M.Step Int (M.Ex Unit Bool)):=fun i12=>
 cond ((decide (i12 < (l1.length:Int))))
  (M.bind (M.idx l1 i12) fun x14=>
  cond (((decide (x14.dev = d2.dev) && decide (x14.n = d2.n))))
   (M.pure (.done (.ret true)))
   (M.pure (.next (IntKind.i64.wrap (i12 + 1)))))
  (M.pure (.done (.brk ())))
def jy (l1:List DT) (d2:DT):M Bool:=
 M.bind (M.loop (WN l1 d2) 0) (M.exk (fun _=>
 M.pure false))

def uy (e1:EV):Int -> M (M.Step Int (M.Ex Unit Bool)):=fun i37=>
 cond ((decide (i37 < (e1.kills.length:Int))))
  (M.bind (M.idx e1.kills i37) fun x39=>
  M.bind (M.det (uc x39)) fun v41=>
  cond (!v41)
   (M.pure (.done (.ret false)))
   (M.pure (.next (IntKind.i64.wrap (i37 + 1)))))
  (M.pure (.done (.brk ())))
def Yf (e1:EV):M Bool:=
 M.bind (M.det (WL e1.cid)) fun v2=>
 M.bind (cond (!v2.2)
  (M.pure true)
  (M.bind (M.det (uc e1.dot)) fun v6=>
  cond (!v6)
   (M.pure true)
   (cond (!decide (e1.kind = 1))
    (M.pure (!decide (e1.kind = 2)))
    (M.pure false)))) (fun v4=>
 cond v4
  (M.pure false)
  (M.bind (cond (decide (e1.kind = 1))
   (M.bind (M.det (jF e1.field)) fun v13=>
   cond (!v13)
    (M.pure true)
    (M.bind (M.det (jG e1.text)) fun v16=>
    cond (!v16)
     (M.pure true)
     (cond (decide (e1.kind = 2))
      (cond (!decide (e1.field = 0))
       (M.pure true)
       (M.pure ((!decide (e1.text = (⟨#[]⟩:ByteArray))))))
      (M.pure false))))
   (cond (decide (e1.kind = 2))
    (cond (!decide (e1.field = 0))
     (M.pure true)
     (M.pure ((!decide (e1.text = (⟨#[]⟩:ByteArray))))))
    (M.pure false))) (fun v11=>
  cond v11
   (M.pure false)
   (M.bind (M.loop (uy e1) 0) (M.exk (fun _=>
   M.bind (cond ((decide ((e1.kills.length:Int) <= 256)))
    (M.bind (M.det (WM e1.kills)) fun v46=>
    cond v46
     (M.bind (M.det (jy e1.kills e1.dot)) fun v49=>
     M.pure (!v49))
     (M.pure false))
    (M.pure false)) (fun v44=>
   M.pure v44)))))))

def Wr (c1:List PT) (d2:DT):M Bool:=
 M.bind (M.bind (M.det (uc d2)) fun v4=>
 cond v4
  (M.bind (M.det (Yb c1 d2.dev)) fun v7=>
  M.bind (M.det (UO v7 d2.n)) fun v9=>
  M.pure v9)
  (M.pure false)) (fun v3=>
 M.pure v3)

def Yg (l1:List EV) (d2:DT):Int -> M (M.Step Int (M.Ex Unit Bool)):=fun i_16=>
 cond ((decide (i_16 < (l1.length:Int))))
  (M.bind (M.idx l1 i_16) fun x18=>
  M.bind (M.det (jy x18.kills d2)) fun v20=>
  cond v20
   (M.pure (.done (.ret true)))
   (M.pure (.next (IntKind.i64.wrap (i_16 + 1)))))
  (M.pure (.done (.brk ())))
def VX (l1:List EV) (d2:DT):M Bool:=
 M.bind (M.loop (Yg l1 d2) 0) (M.exk (fun _=>
 M.pure false))

def Yh (l1:List DT) (c2:List PT):List DT × Int -> M (M.Step (List DT × Int) (List DT)):=fun ⟨out28,i29⟩=>
 cond ((decide (i29 < (l1.length:Int))))
  (M.bind (M.bind (M.idx l1 i29) fun x32=>
  M.bind (M.det (Wr c2 x32)) fun v34=>
  cond (!v34)
   (M.bind (M.idx l1 i29) fun x37=>
   M.bind (M.det (Yc out28 x37)) fun v39=>
   M.pure v39)
   (M.pure out28)) (fun out31=>
  M.pure (.next ((out31,(IntKind.i64.wrap (i29 + 1)))))))
  (M.pure (.done out28))
def jH (l1:List DT) (c2:List PT):M (List DT):=
 M.bind (M.loop (Yh l1 c2) (([]:List DT),0)) (fun out3=>
 M.pure out3)

def uz (l1:List EV) (i80:Int):List DT × Int -> M (M.Step (List DT × Int) (List DT)):=fun ⟨out107,k108⟩=>
 M.bind (M.idx l1 i80) fun x109=>
 cond ((decide (k108 < (x109.kills.length:Int))))
  (M.bind (M.idx l1 i80) fun x112=>
  M.bind (M.idx x112.kills k108) fun x114=>
  M.bind (M.det (Yc out107 x114)) fun v116=>
  M.pure (.next ((v116,(IntKind.i64.wrap (k108 + 1))))))
  (M.pure (.done out107))
def Yi (l1:List EV):List DT × Int -> M (M.Step (List DT × Int) (List DT)):=fun ⟨out79,i80⟩=>
 cond ((decide (i80 < (l1.length:Int))))
  (M.bind (M.bind (M.idx l1 i80) fun x83=>
  M.bind (M.det (Yc out79 x83.dot)) fun v85=>
  M.loop (uz l1 i80) (v85,0)) (fun out82=>
  M.pure (.next ((out82,(IntKind.i64.wrap (i80 + 1)))))))
  (M.pure (.done out79))
def jI (l1:List EV):M (List DT):=
 M.bind (M.loop (Yi l1) (([]:List DT),0)) (fun out2=>
 M.pure out2)

def ZA (d1:DL):Int -> M (M.Step Int (M.Ex Unit Bool)):=fun i66=>
 cond ((decide (i66 < (d1.events.length:Int))))
  (M.bind (M.idx d1.events i66) fun x68=>
  M.bind (M.bind (M.det (Yf x68)) fun v71=>
  cond (!v71)
   (M.pure true)
   (cond (decide (0 < i66))
    (M.bind (M.idx d1.events (IntKind.i64.wrap (i66 - 1))) fun x75=>
    M.bind (M.det (vK x75.dot x68.dot)) fun v77=>
    cond (decide (0 <= v77))
     (M.pure true)
     (M.bind (M.det (Wr d1.from_ x68.dot)) fun v80=>
     cond v80
      (M.pure true)
      (cond (decide (x68.kind = 1))
       (M.bind (M.det (VX d1.events x68.dot)) fun v84=>
       M.pure v84)
       (M.pure false))))
    (M.bind (M.det (Wr d1.from_ x68.dot)) fun v86=>
    cond v86
     (M.pure true)
     (cond (decide (x68.kind = 1))
      (M.bind (M.det (VX d1.events x68.dot)) fun v90=>
      M.pure v90)
      (M.pure false))))) (fun v70=>
  cond v70
   (M.pure (.done (.ret false)))
   (M.pure (.next (IntKind.i64.wrap (i66 + 1))))))
  (M.pure (.done (.brk ())))
def Zf (d1:DL):M Bool:=
 M.bind (M.bind (M.det (vj d1.from_)) fun v3=>
 cond (!v3)
  (M.pure true)
  (M.bind (M.det (vj d1.to_)) fun v6=>
  cond (!v6)
   (M.pure true)
   (M.bind (M.det (um d1.from_ d1.to_)) fun v9=>
   cond (!v9)
    (M.pure true)
    (M.pure ((decide (4096 < (d1.events.length:Int)))))))) (fun v2=>
 cond v2
  (M.pure false)
  (M.bind (M.loop (ZA d1) 0) (M.exk (fun _=>
  M.bind (M.det (jI d1.events)) fun v93=>
  M.bind (M.det (jH v93 d1.to_)) fun v95=>
  M.pure ((decide ((v95.length:Int) = 0)))))))

def Yj (d1:DL) (dev2:Int):Int -> M (M.Step Int (M.Ex Unit Bool)):=fun i40=>
 cond ((decide (i40 < (d1.events.length:Int))))
  (M.bind (M.bind (M.idx d1.events i40) fun x43=>
  M.bind (M.det (Yf x43)) fun v45=>
  cond (!v45)
   (M.pure true)
   (M.bind (M.idx d1.events i40) fun x48=>
   cond (!decide (x48.dot.dev = dev2))
    (M.pure true)
    (cond (decide (0 < i40))
     (M.bind (M.idx d1.events (IntKind.i64.wrap (i40 - 1))) fun x52=>
     M.bind (M.idx d1.events i40) fun x54=>
     M.bind (M.det (vK x52.dot x54.dot)) fun v56=>
     M.pure (decide (0 <= v56)))
     (M.pure false)))) (fun v42=>
  cond v42
   (M.pure (.done (.ret false)))
   (M.pure (.next (IntKind.i64.wrap (i40 + 1))))))
  (M.pure (.done (.brk ())))
def jJ (d1:DL) (dev2:Int):M Bool:=
 M.bind (M.loop (Yj d1 dev2) 0) (M.exk (fun _=>
 M.bind (cond ((decide ((d1.from_.length:Int) = 0)))
  (cond ((decide ((d1.to_.length:Int) = 0)))
   (cond ((decide (1 <= (d1.events.length:Int))))
    (M.pure ((decide ((d1.events.length:Int) <= 4))))
    (M.pure false))
   (M.pure false))
  (M.pure false)) (fun v59=>
 M.pure v59)))

def vk (l2:List EV) (c1:List PT):Int -> M (M.Step Int (M.Ex Unit Bool)):=fun i_16=>
 cond ((decide (i_16 < (l2.length:Int))))
  (M.bind (M.idx l2 i_16) fun x18=>
  M.bind (M.det (Wr c1 x18.dot)) fun v20=>
  cond v20
   (M.pure (.done (.ret true)))
   (M.pure (.next (IntKind.i64.wrap (i_16 + 1)))))
  (M.pure (.done (.brk ())))
def Yk (c1:List PT) (l2:List EV):M Bool:=
 M.bind (M.loop (vk l2 c1) 0) (M.exk (fun _=>
 M.pure false))

def jK (d1:DL):M Bool:=
 M.bind (cond ((decide ((d1.from_.length:Int) = 0)))
  (cond ((decide ((d1.to_.length:Int) = 0)))
   (M.pure ((decide ((d1.events.length:Int) = 0))))
   (M.pure false))
  (M.pure false)) (fun v2=>
 M.pure v2)

def ud (m1:TMsg):M Bool:=
 M.bind (cond (decide (m1.kind = 1))
  (M.pure true)
  (M.pure (decide (m1.kind = 2)))) (fun hello2=>
 M.bind (cond (decide (m1.kind < 1))
  (M.pure true)
  (cond (decide (9 < m1.kind))
   (M.pure true)
   (cond hello2
    (cond (decide (16 <= m1.slot))
     (M.pure true)
     (M.bind (M.det (ul m1.try_)) fun v9=>
     cond (!v9)
      (M.pure true)
      (cond (!hello2)
       (cond (!decide (m1.slot = 0))
        (M.pure true)
        (M.pure (!decide (m1.try_ = 0))))
       (M.pure false))))
    (cond (!hello2)
     (cond (!decide (m1.slot = 0))
      (M.pure true)
      (M.pure (!decide (m1.try_ = 0))))
     (M.pure false))))) (fun v4=>
 cond v4
  (M.pure false)
  (M.bind (cond (decide (m1.kind = 1))
   (cond (!decide (m1.dev = 0))
    (M.pure true)
    (cond (!decide (m1.epoch = 0))
     (M.pure true)
     (cond (!decide (m1.kind = 1))
      (cond (decide (m1.dev = 0))
       (M.pure true)
       (M.bind (M.det (ul m1.epoch)) fun v23=>
       M.pure (!v23)))
      (M.pure false))))
   (cond (!decide (m1.kind = 1))
    (cond (decide (m1.dev = 0))
     (M.pure true)
     (M.bind (M.det (ul m1.epoch)) fun v27=>
     M.pure (!v27)))
    (M.pure false))) (fun v17=>
  cond v17
   (M.pure false)
   (M.bind (cond (decide (m1.kind = 9))
    (cond (!decide (m1.why = 1))
     (cond (!decide (m1.why = 2))
      (M.pure true)
      (cond (!decide (m1.kind = 9))
       (M.pure (!decide (m1.why = 0)))
       (M.pure false)))
     (cond (!decide (m1.kind = 9))
      (M.pure (!decide (m1.why = 0)))
      (M.pure false)))
    (cond (!decide (m1.kind = 9))
     (M.pure (!decide (m1.why = 0)))
     (M.pure false))) (fun v30=>
   cond v30
    (M.pure false)
    (M.bind (cond (decide (m1.kind = 3))
     (M.pure true)
     (cond (decide (5 <= m1.kind))
      (M.pure (decide (m1.kind <= 7)))
      (M.pure false))) (fun has38=>
    M.bind (cond (!has38)
     (cond ((!decide ((m1.have_.length:Int) = 0)))
      (M.pure true)
      (M.bind (M.det (vj m1.have_)) fun v44=>
      cond (!v44)
       (M.pure true)
       (cond (decide (m1.kind = 5))
        (M.bind (M.det (Ye m1.have_ m1.dev)) fun v48=>
        M.bind (M.det (vL m1.have_ v48)) fun v50=>
        M.pure (!v50))
        (cond (decide (m1.kind = 6))
         (M.bind (M.det (Ye m1.have_ m1.dev)) fun v53=>
         M.bind (M.det (vL m1.have_ v53)) fun v55=>
         M.pure (!v55))
         (M.pure false)))))
     (M.bind (M.det (vj m1.have_)) fun v57=>
     cond (!v57)
      (M.pure true)
      (cond (decide (m1.kind = 5))
       (M.bind (M.det (Ye m1.have_ m1.dev)) fun v61=>
       M.bind (M.det (vL m1.have_ v61)) fun v63=>
       M.pure (!v63))
       (cond (decide (m1.kind = 6))
        (M.bind (M.det (Ye m1.have_ m1.dev)) fun v66=>
        M.bind (M.det (vL m1.have_ v66)) fun v68=>
        M.pure (!v68))
        (M.pure false))))) (fun v41=>
    cond v41
     (M.pure false)
     (M.bind (cond (!decide (m1.kind = 4))
      (cond ((!decide ((m1.front.length:Int) = 0)))
       (M.pure true)
       (M.bind (M.det (vj m1.front)) fun v74=>
       cond (!v74)
        (M.pure true)
        (M.bind (M.det (um m1.front m1.delta.to_)) fun v77=>
        cond (!v77)
         (M.pure (decide (m1.kind = 4)))
         (M.pure false))))
      (M.bind (M.det (vj m1.front)) fun v80=>
      cond (!v80)
       (M.pure true)
       (M.bind (M.det (um m1.front m1.delta.to_)) fun v83=>
       cond (!v83)
        (M.pure (decide (m1.kind = 4)))
        (M.pure false)))) (fun v71=>
     cond v71
      (M.pure false)
      (cond (decide (m1.kind = 2))
       (M.bind (M.bind (M.det (Zf m1.delta)) fun v89=>
       cond v89
        (M.pure ((decide ((m1.delta.from_.length:Int) = 0))))
        (M.pure false)) (fun v88=>
       M.pure v88))
       (cond (decide (m1.kind = 4))
        (M.bind (M.det (Zf m1.delta)) fun v93=>
        M.pure v93)
        (cond (decide (m1.kind = 5))
         (M.bind (M.bind (M.det (jJ m1.delta m1.dev)) fun v97=>
         cond v97
          (M.bind (M.det (Yk m1.have_ m1.delta.events)) fun v100=>
          M.pure (!v100))
          (M.pure false)) (fun v96=>
         M.pure v96))
         (M.bind (M.det (jK m1.delta)) fun v102=>
         M.pure v102)))))))))))))))

def Ws :Int × Int -> M (M.Step (Int × Int) Int):=fun ⟨c12,i13⟩=>
 cond (decide (i13 < 8))
  (M.bind (cond ((decide ((Int.tmod c12 2) = 1)))
   (M.pure ((VI .u32 (IntKind.u32.wrap (Int.tdiv c12 2)) 3988292384)))
   (M.pure (IntKind.u32.wrap (Int.tdiv c12 2)))) (fun c15=>
  M.pure (.next ((c15,(IntKind.i64.wrap (i13 + 1)))))))
  (M.pure (.done c12))
def jL (c1:Int) (x2:Int):M Int:=
 M.bind (M.loop Ws (((VI .u32 c1 (IntKind.u32.wrap x2)),0))) (fun c3=>
 M.pure c3)

def jz (b2:List Int):Int × Int -> M (M.Step (Int × Int) Int):=fun ⟨c16,i17⟩=>
 cond ((decide (i17 < (b2.length:Int))))
  (M.bind (M.idx b2 i17) fun x19=>
  M.bind (M.det (jL c16 x19)) fun v21=>
  M.pure (.next ((v21,(IntKind.i64.wrap (i17 + 1))))))
  (M.pure (.done c16))
def VY (sum1:Int) (b2:List Int):M Int:=
 M.bind (M.loop (jz b2) ((VI .u32 sum1 4294967295),0)) (fun c3=>
 M.pure (VI .u32 c3 4294967295))

def Yl :Int × Int × List Int -> M (M.Step (Int × Int × List Int) (List Int)):=fun ⟨c14,i15,v16⟩=>
 cond (decide (i15 < 4))
  (M.yV ((v16.length + List.length ([(IntKind.u8.wrap (Int.tmod c14 256))])) * 1 <= 140737488355328) <|
  M.pure (.next (((IntKind.u32.wrap (Int.tdiv c14 256)),(IntKind.i64.wrap (i15 + 1)),(v16 ++ [(IntKind.u8.wrap (Int.tmod c14 256))])))))
  (M.pure (.done v16))
def WO (kind1:Int) (body2:List Int):M (List Int):=
 M.yV ((List.length ([kind1]) + body2.length) * 1 <= 140737488355328) <|
 M.bind (M.det (VY 0 ([kind1] ++ body2))) fun v4=>
 M.bind (M.loop Yl (v4,0,([kind1] ++ body2))) (fun v6=>
 M.pure v6)

def jM (b1:List Int):M (Int × List Int × Int):=
 cond ((decide ((b1.length:Int) < 5)))
  (M.pure (0,([]:List Int),2))
  (M.yV ((0:Int) <= 1 /\ (1:Int) <= ((IntKind.i64.wrap ((b1.length:Int) - 4))) /\ ((IntKind.i64.wrap ((b1.length:Int) - 4))) <= (b1.length:Int)) <|
  M.yV ((List.length ([]:List Int) + List.length ((List.drop (Int.toNat 1) (List.take (Int.toNat ((IntKind.i64.wrap ((b1.length:Int) - 4)))) b1)))) * 1 <= 140737488355328) <|
  M.bind (M.idx b1 0) fun x5=>
  M.bind (M.det (WO x5 ((([]:List Int) ++ (List.drop (Int.toNat 1) (List.take (Int.toNat ((IntKind.i64.wrap ((b1.length:Int) - 4)))) b1)))))) fun v7=>
  cond ((!decide ((XK v7) = (XK b1))))
   (M.pure (0,([]:List Int),5))
   (M.bind (M.idx b1 0) fun x10=>
   M.pure ((x10,(([]:List Int) ++ (List.drop (Int.toNat 1) (List.take (Int.toNat ((IntKind.i64.wrap ((b1.length:Int) - 4)))) b1))),0))))

def ZB (x7:Int) (b1:List Int) (at2:Int):Int × Int -> M (M.Step (Int × Int) Int):=fun ⟨v26,i27⟩=>
 cond ((decide (i27 <= (IntKind.i64.wrap x7))))
  (M.bind (M.idx b1 (IntKind.i64.wrap (at2 + i27))) fun x29=>
  M.pure (.next (((IntKind.u64.wrap ((IntKind.u64.wrap (v26 * 256)) + (IntKind.u64.wrap x29))),(IntKind.i64.wrap (i27 + 1))))))
  (M.pure (.done v26))
def jN (b1:List Int) (at2:Int):M (Int × Int × Int):=
 M.bind (cond (decide (at2 < 0))
  (M.pure true)
  (M.pure ((decide ((b1.length:Int) < at2))))) (fun v3=>
 cond v3
  (M.pure (0,0,1))
  (cond ((decide (at2 = (b1.length:Int))))
   (M.pure (0,0,2))
   (M.bind (M.idx b1 at2) fun x7=>
   M.bind (cond ((decide (8 < (IntKind.i64.wrap x7))))
    (M.pure true)
    (cond ((decide (0 < (IntKind.i64.wrap x7))))
     (cond ((decide (0 < ((IntKind.i64.wrap (((IntKind.i64.wrap ((b1.length:Int) - at2))) - 1))))))
      (M.bind (M.idx b1 (IntKind.i64.wrap (at2 + 1))) fun x13=>
      M.pure (decide (x13 = 0)))
      (M.pure false))
     (M.pure false))) (fun v9=>
   cond v9
    (M.pure (0,0,4))
    (cond ((decide (((IntKind.i64.wrap (((IntKind.i64.wrap ((b1.length:Int) - at2))) - 1))) < (IntKind.i64.wrap x7))))
     (M.pure (0,0,2))
     (M.bind (M.loop (ZB x7 b1 at2) (0,1)) (fun v17=>
     M.pure ((v17,(IntKind.i64.wrap ((IntKind.i64.wrap (at2 + 1)) + (IntKind.i64.wrap x7))),0)))))))))

def zC (e1:Int) (b_2:List Int) (at_3:Int) (bad_4:Int):M (List Int × Int × Int):=
 cond (decide (bad_4 = 0))
  (M.pure (b_2,at_3,e1))
  (M.pure (b_2,at_3,bad_4))

def zQ (b_1:List Int) (at_2:Int) (bad_3:Int):M (Int × List Int × Int × Int):=
 cond (!decide (bad_3 = 0))
  (M.pure (0,b_1,at_2,bad_3))
  (cond ((decide ((b_1.length:Int) <= at_2)))
   (M.bind (M.det (zC 2 b_1 at_2 bad_3)) fun y6=>
   M.pure (0,y6.1,y6.2.1,y6.2.2))
   (M.bind (M.idx b_1 ((IntKind.i64.wrap ((IntKind.i64.wrap (at_2 + 1)) - 1)))) fun x8=>
   M.pure ((x8,b_1,(IntKind.i64.wrap (at_2 + 1)),bad_3))))

def zE (b_1:List Int) (at_2:Int) (bad_3:Int):M (Int × List Int × Int × Int):=
 cond (!decide (bad_3 = 0))
  (M.pure (0,b_1,at_2,bad_3))
  (M.bind (M.det (jN b_1 at_2)) fun v5=>
  cond (!decide (v5.2.2 = 0))
   (M.bind (M.det (zC v5.2.2 b_1 at_2 bad_3)) fun y8=>
   M.pure (0,y8.1,y8.2.1,y8.2.2))
   (M.pure (v5.1,b_1,v5.2.1,bad_3)))

def zY (most1:Int) (b_2:List Int) (at_3:Int) (bad_4:Int):M (Int × List Int × Int × Int):=
 M.bind (M.det (zE b_2 at_3 bad_4)) fun y5=>
 cond (decide (most1 < y5.1))
  (M.bind (M.det (zC 4 y5.2.1 y5.2.2.1 y5.2.2.2)) fun y8=>
  M.pure (0,y8.1,y8.2.1,y8.2.2))
  (M.pure (y5.1,y5.2.1,y5.2.2.1,y5.2.2.2))

def yv (y135:Int × List Int × Int × Int):Int × List RN × List Int × Int × Int -> M (M.Step (Int × List RN × List Int × Int × Int) (List RN × List Int × Int × Int)):=fun ⟨k164,p165,v166,v167,v168⟩=>
 M.bind (cond (decide (k164 < y135.1))
  (M.pure (decide (v168 = 0)))
  (M.pure false)) (fun v169=>
 cond v169
  (M.bind (M.det (zE v166 v167 v168)) fun y172=>
  M.yV ((List.length ([]:List RN) + p165.length) * 16 <= 140737488355328) <|
  M.bind (M.det (zE y172.2.1 y172.2.2.1 y172.2.2.2)) fun y175=>
  M.yV ((List.length (([]:List RN) ++ p165) + List.length ([(⟨y172.1,y175.1⟩:RN)])) * 16 <= 140737488355328) <|
  M.pure (.next (((IntKind.u64.wrap (k164 + 1)),((([]:List RN) ++ p165) ++ [(⟨y172.1,y175.1⟩:RN)]),y175.2.1,y175.2.2.1,y175.2.2.2))))
  (M.pure (.done (p165,v166,v167,v168))))
def xH (y4:Int × List Int × Int × Int):Int × List PT × List Int × Int × Int -> M (M.Step (Int × List PT × List Int × Int × Int) (List PT × List Int × Int × Int)):=fun ⟨i121,out122,v123,v124,v125⟩=>
 M.bind (cond (decide (i121 < y4.1))
  (M.pure (decide (v125 = 0)))
  (M.pure false)) (fun v126=>
 cond v126
  (M.bind (M.bind (M.det (zY 65535 v123 v124 v125)) fun y133=>
  M.bind (M.det (zE y133.2.1 y133.2.2.1 y133.2.2.2)) fun y135=>
  M.bind (M.loop (yv y135) (0,([]:List RN),y135.2.1,y135.2.2.1,y135.2.2.2)) (fun ⟨p137,v138,v139,v140⟩=>
  M.yV ((out122.length + List.length ([(⟨(IntKind.u16.wrap y133.1),p137⟩:PT)])) * 32 <= 140737488355328) <|
  M.pure (((out122 ++ [(⟨(IntKind.u16.wrap y133.1),p137⟩:PT)]),v138,v139,v140)))) (fun ⟨out129,v130,v131,v132⟩=>
  M.pure (.next (((IntKind.u64.wrap (i121 + 1)),out129,v130,v131,v132)))))
  (M.pure (.done (out122,v123,v124,v125))))
def ZC (b_1:List Int) (at_2:Int) (bad_3:Int):M (List PT × List Int × Int × Int):=
 M.bind (M.det (zE b_1 at_2 bad_3)) fun y4=>
 M.bind (M.loop (xH y4) (0,([]:List PT),y4.2.1,y4.2.2.1,y4.2.2.2)) (fun ⟨out6,v7,v8,v9⟩=>
 M.bind (cond (decide (v9 = 0))
  (M.bind (M.det (vj out6)) fun v182=>
  M.pure (out6,(!v182)))
  (M.pure (out6,false))) (fun ⟨out179,v180⟩=>
 M.bind (cond v180
  (M.bind (M.det (zC 4 v7 v8 v9)) fun y188=>
  M.pure (y188.1,y188.2.1,y188.2.2))
  (M.pure (v7,v8,v9))) (fun ⟨v184,v185,v186⟩=>
 cond (!decide (v186 = 0))
  (M.pure (([]:List PT),v184,v185,v186))
  (M.pure (out179,v184,v185,v186)))))

def YA (b_1:List Int) (at_2:Int) (bad_3:Int):M (DT × List Int × Int × Int):=
 M.bind (M.det (zY 65535 b_1 at_2 bad_3)) fun y4=>
 M.bind (M.det (zE y4.2.1 y4.2.2.1 y4.2.2.2)) fun y6=>
 M.bind (cond (decide (y6.2.2.2 = 0))
  (M.bind (M.det (uc (⟨(IntKind.u16.wrap y4.1),y6.1⟩:DT))) fun v10=>
  M.pure (!v10))
  (M.pure false)) (fun v8=>
 M.bind (cond v8
  (M.bind (M.det (zC 4 y6.2.1 y6.2.2.1 y6.2.2.2)) fun y16=>
  M.pure (y16.1,y16.2.1,y16.2.2))
  (M.pure (y6.2.1,y6.2.2.1,y6.2.2.2))) (fun ⟨v12,v13,v14⟩=>
 cond (!decide (v14 = 0))
  (M.pure ((⟨0,0⟩:DT),v12,v13,v14))
  (M.pure (((⟨(IntKind.u16.wrap y4.1),y6.1⟩:DT),v12,v13,v14)))))

def zx (most1:Int) (b_2:List Int) (at_3:Int) (bad_4:Int):M (ByteArray × List Int × Int × Int):=
 M.bind (M.det (zE b_2 at_3 bad_4)) fun y5=>
 M.bind (cond (decide (most1 < 0))
  (M.pure 0)
  (M.pure most1)) (fun most7=>
 M.bind (cond ((decide ((IntKind.u64.wrap most7) < y5.1)))
  (M.bind (M.det (zC 3 y5.2.1 y5.2.2.1 y5.2.2.2)) fun y13=>
  M.pure (y13.1,y13.2.1,y13.2.2))
  (M.pure (y5.2.1,y5.2.2.1,y5.2.2.2))) (fun ⟨v9,v10,v11⟩=>
 M.bind (cond (decide (v11 = 0))
  (M.pure ((decide (((IntKind.u64.wrap ((IntKind.i64.wrap ((v9.length:Int) - v10))))) < y5.1))))
  (M.pure false)) (fun v15=>
 M.bind (cond v15
  (M.bind (M.det (zC 2 v9 v10 v11)) fun y21=>
  M.pure (y21.1,y21.2.1,y21.2.2))
  (M.pure (v9,v10,v11))) (fun ⟨v17,v18,v19⟩=>
 cond (!decide (v19 = 0))
  (M.pure ((⟨#[]⟩:ByteArray),v17,v18,v19))
  (M.yV ((0:Int) <= v18 /\ (v18:Int) <= ((IntKind.i64.wrap (v18 + (IntKind.i64.wrap y5.1)))) /\ ((IntKind.i64.wrap (v18 + (IntKind.i64.wrap y5.1)))) <= (v17.length:Int)) <|
  M.pure (((XK ((List.drop (Int.toNat v18) (List.take (Int.toNat ((IntKind.i64.wrap (v18 + (IntKind.i64.wrap y5.1))))) v17)))),v17,(IntKind.i64.wrap (v18 + (IntKind.i64.wrap y5.1))),v19)))))))

def yY (y7:Int × List Int × Int × Int):Int × List DT × List Int × Int × Int -> M (M.Step (Int × List DT × List Int × Int × Int) (List DT × List Int × Int × Int)):=fun ⟨i62,out63,v64,v65,v66⟩=>
 M.bind (cond (decide (i62 < y7.1))
  (M.pure (decide (v66 = 0)))
  (M.pure false)) (fun v67=>
 cond v67
  (M.bind (M.det (YA v64 v65 v66)) fun y70=>
  M.bind (cond (decide (y70.2.2.2 = 0))
   (cond ((decide (0 <= ((IntKind.i64.wrap (((out63.length):Int) - 1))))))
    (M.bind (M.idx out63 ((IntKind.i64.wrap (((out63.length):Int) - 1)))) fun x75=>
    M.bind (M.det (vK x75 y70.1)) fun v77=>
    M.pure (decide (0 <= v77)))
    (M.pure false))
   (M.pure false)) (fun v72=>
  M.bind (cond v72
   (M.bind (M.det (zC 4 y70.2.1 y70.2.2.1 y70.2.2.2)) fun y83=>
   M.pure (y83.1,y83.2.1,y83.2.2))
   (M.pure (y70.2.1,y70.2.2.1,y70.2.2.2))) (fun ⟨v79,v80,v81⟩=>
  M.yV ((out63.length + List.length ([y70.1])) * 16 <= 140737488355328) <|
  M.pure (.next (((IntKind.u64.wrap (i62 + 1)),(out63 ++ [y70.1]),v79,v80,v81))))))
  (M.pure (.done (out63,v64,v65,v66))))
def YB (most1:Int) (b_2:List Int) (at_3:Int) (bad_4:Int):M (List DT × List Int × Int × Int):=
 M.bind (cond (decide (most1 < 0))
  (M.pure 0)
  (M.pure most1)) (fun most5=>
 M.bind (M.det (zE b_2 at_3 bad_4)) fun y7=>
 M.bind (cond ((decide ((IntKind.u64.wrap most5) < y7.1)))
  (M.bind (M.det (zC 3 y7.2.1 y7.2.2.1 y7.2.2.2)) fun y13=>
  M.pure (y13.1,y13.2.1,y13.2.2))
  (M.pure (y7.2.1,y7.2.2.1,y7.2.2.2))) (fun ⟨v9,v10,v11⟩=>
 M.bind (M.loop (yY y7) (0,([]:List DT),v9,v10,v11)) (fun ⟨out15,v16,v17,v18⟩=>
 cond (!decide (v18 = 0))
  (M.pure (([]:List DT),v16,v17,v18))
  (M.pure (out15,v16,v17,v18)))))

def VZ (b_1:List Int) (at_2:Int) (bad_3:Int):M (EV × List Int × Int × Int):=
 M.bind (M.det (YA b_1 at_2 bad_3)) fun y4=>
 M.bind (M.det (zQ y4.2.1 y4.2.2.1 y4.2.2.2)) fun y6=>
 M.bind (M.det (zE y6.2.1 y6.2.2.1 y6.2.2.2)) fun y8=>
 M.bind (M.det (zQ y8.2.1 y8.2.2.1 y8.2.2.2)) fun y10=>
 M.bind (M.det (zx 60 y10.2.1 y10.2.2.1 y10.2.2.2)) fun y12=>
 M.bind (M.det (YB 256 y12.2.1 y12.2.2.1 y12.2.2.2)) fun y14=>
 M.bind (cond (decide (y14.2.2.2 = 0))
  (M.bind (M.det (Yf (⟨y4.1,y6.1,y8.1,y10.1,y12.1,y14.1⟩:EV))) fun v18=>
  M.pure (!v18))
  (M.pure false)) (fun v16=>
 M.bind (cond v16
  (M.bind (M.det (zC 4 y14.2.1 y14.2.2.1 y14.2.2.2)) fun y24=>
  M.pure (y24.1,y24.2.1,y24.2.2))
  (M.pure (y14.2.1,y14.2.2.1,y14.2.2.2))) (fun ⟨v20,v21,v22⟩=>
 cond (!decide (v22 = 0))
  (M.pure (((⟨(⟨0,0⟩:DT),0,0,0,(⟨#[]⟩:ByteArray),([]:List DT)⟩:EV),v20,v21,v22)))
  (M.pure ((⟨y4.1,y6.1,y8.1,y10.1,y12.1,y14.1⟩:EV),v20,v21,v22))))

def yJ (y7:Int × List Int × Int × Int):Int × List EV × List Int × Int × Int -> M (M.Step (Int × List EV × List Int × Int × Int) (List EV × List Int × Int × Int)):=fun ⟨i62,out63,v64,v65,v66⟩=>
 M.bind (cond (decide (i62 < y7.1))
  (M.pure (decide (v66 = 0)))
  (M.pure false)) (fun v67=>
 cond v67
  (M.bind (M.det (VZ v64 v65 v66)) fun y70=>
  M.bind (cond (decide (y70.2.2.2 = 0))
   (cond ((decide (0 <= ((IntKind.i64.wrap (((out63.length):Int) - 1))))))
    (M.bind (M.idx out63 ((IntKind.i64.wrap (((out63.length):Int) - 1)))) fun x75=>
    M.bind (M.det (vK x75.dot y70.1.dot)) fun v77=>
    M.pure (decide (0 <= v77)))
    (M.pure false))
   (M.pure false)) (fun v72=>
  M.bind (cond v72
   (M.bind (M.det (zC 4 y70.2.1 y70.2.2.1 y70.2.2.2)) fun y83=>
   M.pure (y83.1,y83.2.1,y83.2.2))
   (M.pure (y70.2.1,y70.2.2.1,y70.2.2.2))) (fun ⟨v79,v80,v81⟩=>
  M.yV ((out63.length + List.length ([y70.1])) * 80 <= 140737488355328) <|
  M.pure (.next (((IntKind.u64.wrap (i62 + 1)),(out63 ++ [y70.1]),v79,v80,v81))))))
  (M.pure (.done (out63,v64,v65,v66))))
def uB (most1:Int) (b_2:List Int) (at_3:Int) (bad_4:Int):M (List EV × List Int × Int × Int):=
 M.bind (cond (decide (most1 < 0))
  (M.pure 0)
  (M.pure most1)) (fun most5=>
 M.bind (M.det (zE b_2 at_3 bad_4)) fun y7=>
 M.bind (cond ((decide ((IntKind.u64.wrap most5) < y7.1)))
  (M.bind (M.det (zC 3 y7.2.1 y7.2.2.1 y7.2.2.2)) fun y13=>
  M.pure (y13.1,y13.2.1,y13.2.2))
  (M.pure (y7.2.1,y7.2.2.1,y7.2.2.2))) (fun ⟨v9,v10,v11⟩=>
 M.bind (M.loop (yJ y7) (0,([]:List EV),v9,v10,v11)) (fun ⟨out15,v16,v17,v18⟩=>
 cond (!decide (v18 = 0))
  (M.pure (([]:List EV),v16,v17,v18))
  (M.pure (out15,v16,v17,v18)))))

def Ym (b_1:List Int) (at_2:Int) (bad_3:Int):M (DL × List Int × Int × Int):=
 M.bind (M.det (ZC b_1 at_2 bad_3)) fun y4=>
 M.bind (M.det (ZC y4.2.1 y4.2.2.1 y4.2.2.2)) fun y6=>
 M.bind (M.det (uB 4096 y6.2.1 y6.2.2.1 y6.2.2.2)) fun y8=>
 M.bind (cond (decide (y8.2.2.2 = 0))
  (M.bind (M.det (Zf (⟨y4.1,y6.1,y8.1⟩:DL))) fun v12=>
  M.pure (!v12))
  (M.pure false)) (fun v10=>
 M.bind (cond v10
  (M.bind (M.det (zC 4 y8.2.1 y8.2.2.1 y8.2.2.2)) fun y18=>
  M.pure (y18.1,y18.2.1,y18.2.2))
  (M.pure (y8.2.1,y8.2.2.1,y8.2.2.2))) (fun ⟨v14,v15,v16⟩=>
 cond (!decide (v16 = 0))
  (M.pure (((⟨([]:List PT),([]:List PT),([]:List EV)⟩:DL),v14,v15,v16)))
  (M.pure ((⟨y4.1,y6.1,y8.1⟩:DL),v14,v15,v16))))

def yh (b_1:List Int) (at_2:Int) (bad_3:Int):M (Int × List Int × Int × Int):=
 cond (!decide (bad_3 = 0))
  (M.pure (0,b_1,at_2,bad_3))
  (M.pure (((IntKind.i64.wrap ((b_1.length:Int) - at_2)),b_1,at_2,bad_3)))

def yA (b_1:List Int) (at_2:Int) (bad_3:Int):M (Int × List Int × Int × Int):=
 M.bind (M.det (yh b_1 at_2 bad_3)) fun y4=>
 M.bind (cond (decide (0 < y4.1))
  (M.bind (M.det (zC 4 y4.2.1 y4.2.2.1 y4.2.2.2)) fun y10=>
  M.pure (y10.1,y10.2.1,y10.2.2))
  (M.pure (y4.2.1,y4.2.2.1,y4.2.2.2))) (fun ⟨v6,v7,v8⟩=>
 M.pure (v8,v6,v7,v8))

def YC (b1:List Int):M (TMsg × Int):=
 M.bind (M.det (jM b1)) fun v2=>
 cond (!decide (v2.2.2 = 0))
  (M.pure (((⟨0,0,0,0,0,0,([]:List PT),([]:List PT),(⟨([]:List PT),([]:List PT),([]:List EV)⟩:DL)⟩:TMsg),v2.2.2)))
  (M.bind (cond (decide (v2.1 < 1))
   (M.pure true)
   (M.pure (decide (9 < v2.1)))) (fun v5=>
  cond v5
   (M.pure (((⟨0,0,0,0,0,0,([]:List PT),([]:List PT),(⟨([]:List PT),([]:List PT),([]:List EV)⟩:DL)⟩:TMsg),4)))
   (M.bind (cond (decide (v2.1 <= 2))
    (M.bind (M.det (zQ v2.2.1 0 0)) fun y14=>
    M.bind (M.det (zE y14.2.1 y14.2.2.1 y14.2.2.2)) fun y16=>
    M.pure (y16.2.1,y16.2.2.1,y16.2.2.2,y14.1,y16.1))
    (M.pure (v2.2.1,0,0,0,0))) (fun ⟨v8,v9,v10,m11,m12⟩=>
   M.bind (cond (decide (2 <= v2.1))
    (M.bind (M.det (zY 65535 v8 v9 v10)) fun y24=>
    M.bind (M.det (zE y24.2.1 y24.2.2.1 y24.2.2.2)) fun y26=>
    M.pure (y26.2.1,y26.2.2.1,y26.2.2.2,(IntKind.u16.wrap y24.1),y26.1))
    (M.pure (v8,v9,v10,0,0))) (fun ⟨v18,v19,v20,m21,m22⟩=>
   M.bind (cond (decide (v2.1 = 9))
    (M.bind (M.det (zQ v18 v19 v20)) fun y33=>
    M.pure (y33.2.1,y33.2.2.1,y33.2.2.2,y33.1))
    (M.pure (v18,v19,v20,0))) (fun ⟨v28,v29,v30,m31⟩=>
   M.bind (cond (decide (v2.1 = 3))
    (M.pure true)
    (cond (decide (5 <= v2.1))
     (M.pure (decide (v2.1 <= 7)))
     (M.pure false))) (fun v35=>
   M.bind (cond v35
    (M.bind (M.det (ZC v28 v29 v30)) fun y43=>
    M.pure (y43.2.1,y43.2.2.1,y43.2.2.2,y43.1))
    (M.pure (v28,v29,v30,([]:List PT)))) (fun ⟨v38,v39,v40,m41⟩=>
   M.bind (cond (decide (v2.1 = 2))
    (M.pure true)
    (M.pure (decide (v2.1 = 4)))) (fun v45=>
   M.bind (cond v45
    (M.bind (M.det (Ym v38 v39 v40)) fun y54=>
    M.pure (y54.2.1,y54.2.2.1,y54.2.2.2,y54.1.from_,y54.1.to_,y54.1.events))
    (M.pure (v38,v39,v40,([]:List PT),([]:List PT),([]:List EV)))) (fun ⟨v47,v48,v49,m50,m51,m52⟩=>
   M.bind (cond (decide (v2.1 = 5))
    (M.bind (M.det (uB 4 v47 v48 v49)) fun y61=>
    M.pure (y61.2.1,y61.2.2.1,y61.2.2.2,y61.1))
    (M.pure (v47,v48,v49,m52))) (fun ⟨v56,v57,v58,m59⟩=>
   M.bind (cond (decide (v2.1 = 4))
    (M.bind (M.det (ZC v56 v57 v58)) fun y68=>
    M.pure (y68.2.1,y68.2.2.1,y68.2.2.2,y68.1))
    (M.pure (v56,v57,v58,([]:List PT)))) (fun ⟨v63,v64,v65,m66⟩=>
   M.bind (M.bind (M.det (yA v63 v64 v65)) fun y74=>
   cond (decide (y74.1 = 0))
    (M.bind (M.det (ud (⟨v2.1,m11,m12,m21,m22,m31,m41,m66,(⟨m50,m51,m59⟩:DL)⟩:TMsg))) fun v77=>
    M.pure ((!v77),y74.2.1,y74.2.2.1,y74.2.2.2))
    (M.pure (false,y74.2.1,y74.2.2.1,y74.2.2.2))) (fun ⟨v70,v71,v72,v73⟩=>
   M.bind (cond v70
    (M.bind (M.det (zC 4 v71 v72 v73)) fun y83=>
    M.pure (y83.1,y83.2.1,y83.2.2))
    (M.pure (v71,v72,v73))) (fun ⟨v79,v80,v81⟩=>
   cond (!decide (v81 = 0))
    (M.pure (((⟨0,0,0,0,0,0,([]:List PT),([]:List PT),(⟨([]:List PT),([]:List PT),([]:List EV)⟩:DL)⟩:TMsg),v81)))
    (M.pure (((⟨v2.1,m11,m12,m21,m22,m31,m41,m66,(⟨m50,m51,m59⟩:DL)⟩:TMsg),0)))))))))))))))))

def Yn (a1:List DT) (b2:List DT):Int -> M (M.Step Int (M.Ex Unit Bool)):=fun i17=>
 cond ((decide (i17 < (a1.length:Int))))
  (M.bind (M.idx a1 i17) fun x19=>
  M.bind (M.idx b2 i17) fun x21=>
  cond ((!(decide (x19.dev = x21.dev) && decide (x19.n = x21.n))))
   (M.pure (.done (.ret false)))
   (M.pure (.next (IntKind.i64.wrap (i17 + 1)))))
  (M.pure (.done (.brk ())))
def jO (a1:List DT) (b2:List DT):M Bool:=
 cond ((!decide ((a1.length:Int) = (b2.length:Int))))
  (M.pure false)
  (M.bind (M.loop (Yn a1 b2) 0) (M.exk (fun _=>
  M.pure true)))

def jP (a1:EV) (b2:EV):M Bool:=
 M.bind (cond (((decide (a1.dot.dev = b2.dot.dev) && decide (a1.dot.n = b2.dot.n))))
  (cond (decide (a1.kind = b2.kind))
   (cond (decide (a1.cid = b2.cid))
    (cond (decide (a1.field = b2.field))
     (cond (decide (a1.text = b2.text))
      (M.bind (M.det (jO a1.kills b2.kills)) fun v9=>
      M.pure v9)
      (M.pure false))
     (M.pure false))
    (M.pure false))
   (M.pure false))
  (M.pure false)) (fun v3=>
 M.pure v3)

def WP (a1:List EV) (b2:List EV):Int -> M (M.Step Int (M.Ex Unit Bool)):=fun i21=>
 cond ((decide (i21 < (a1.length:Int))))
  (M.bind (M.idx a1 i21) fun x23=>
  M.bind (M.idx b2 i21) fun x25=>
  M.bind (M.det (jP x23 x25)) fun v27=>
  cond (!v27)
   (M.pure (.done (.ret false)))
   (M.pure (.next (IntKind.i64.wrap (i21 + 1)))))
  (M.pure (.done (.brk ())))
def QS (a1:List EV) (b2:List EV):M Bool:=
 cond ((!decide ((a1.length:Int) = (b2.length:Int))))
  (M.pure false)
  (M.bind (M.loop (WP a1 b2) 0) (M.exk (fun _=>
  M.pure true)))

def Va (a1:DL) (b2:DL):M Bool:=
 M.bind (M.bind (M.det (vL a1.from_ b2.from_)) fun v4=>
 cond v4
  (M.bind (M.det (vL a1.to_ b2.to_)) fun v7=>
  cond v7
   (M.bind (M.det (QS a1.events b2.events)) fun v10=>
   M.pure v10)
   (M.pure false))
  (M.pure false)) (fun v3=>
 M.pure v3)

def Vb (a1:TMsg) (b2:TMsg):M Bool:=
 M.bind (cond (!decide (a1.kind = b2.kind))
  (M.pure true)
  (cond (!decide (a1.slot = b2.slot))
   (M.pure true)
   (cond (!decide (a1.try_ = b2.try_))
    (M.pure true)
    (cond (!decide (a1.dev = b2.dev))
     (M.pure true)
     (cond (!decide (a1.epoch = b2.epoch))
      (M.pure true)
      (M.pure (!decide (a1.why = b2.why)))))))) (fun v3=>
 cond v3
  (M.pure false)
  (M.bind (M.bind (M.det (vL a1.have_ b2.have_)) fun v11=>
  cond v11
   (M.bind (M.det (vL a1.front b2.front)) fun v14=>
   cond v14
    (M.bind (M.det (Va a1.delta b2.delta)) fun v17=>
    M.pure v17)
    (M.pure false))
   (M.pure false)) (fun v10=>
  M.pure v10)))

def vl (b1:List Int) (kind2:Int):M Bool:=
 cond ((decide (1500 < (b1.length:Int))))
  (M.bind (M.det (XU)) fun v4=>
  M.pure v4)
  (M.bind (M.det (uA b1)) fun v6=>
  M.bind (M.det (YC b1)) fun v8=>
  M.bind (M.det (WO kind2 b1)) fun v10=>
  M.bind (M.det (uA v10)) fun v12=>
  M.bind (M.det (YC v10)) fun v14=>
  M.bind (M.bind (M.det (Vb v6.1 v8.1)) fun v17=>
  cond v17
   (cond (decide (v6.2 = v8.2))
    (M.bind (M.det (Vb v12.1 v14.1)) fun v21=>
    cond v21
     (cond (decide (v12.2 = v14.2))
      (M.bind (M.det (XU)) fun v25=>
      M.pure v25)
      (M.pure false))
     (M.pure false))
    (M.pure false))
   (M.pure false)) (fun v16=>
  M.pure v16))
end Go.Ep

namespace Go.Proofs
open Go.Shelf
def Tryz.pdq172_ren : Go.Shelf.Ren:=⟨fun | 14=>172 | 20=>178 | 21=>179 | 22=>180 | 23=>181 | 24=>182 | 25=>183 | 26=>184 | 27=>185 | 46=>205 | 47=>206 | 48=>207 | 49=>208 | 50=>209 | 15=>173 | 57=>216 | 28=>186 | 29=>187 | n=>n,fun | 24=>101 | 22=>26 | 3=>3 | 25=>177 | 4=>4 | 0=>0 | 46=>195 | 45=>194 | 50=>180 | 66=>212 | 39=>127 | 55=>24 | 70=>215 | 76=>221 | 77=>222 | 53=>41 | 5=>5 | 9=>9 | n=>n,fun | n=>n⟩
theorem Tryz.pdq172 : Go.Proofs.SlLaysF0.n14 Tryz.prog Tryz.pdq172_ren:={
 mixed:=by kernel_rfl
 f14:=⟨Tryz.f172.name,by decide,Tryz.func172.trans (congrArg some (by kernel_rfl))⟩
 f15:=Tryz.func173.trans (congrArg some (by kernel_rfl))
 f20:=⟨Tryz.f178.name,by decide,Tryz.func178.trans (congrArg some (by kernel_rfl))⟩
 f21:=⟨Tryz.f179.name,by decide,Tryz.func179.trans (congrArg some (by kernel_rfl))⟩
 f22:=⟨Tryz.f180.name,by decide,Tryz.func180.trans (congrArg some (by kernel_rfl))⟩
 f23:=⟨Tryz.f181.name,by decide,Tryz.func181.trans (congrArg some (by kernel_rfl))⟩
 f24:=⟨Tryz.f182.name,by decide,Tryz.func182.trans (congrArg some (by kernel_rfl))⟩
 f25:=⟨Tryz.f183.name,by decide,Tryz.func183.trans (congrArg some (by kernel_rfl))⟩
 f26:=⟨Tryz.f184.name,by decide,Tryz.func184.trans (congrArg some (by kernel_rfl))⟩
 f27:=⟨Tryz.f185.name,by decide,Tryz.func185.trans (congrArg some (by kernel_rfl))⟩
 f28:=Tryz.func186.trans (congrArg some (by kernel_rfl))
 f29:=Tryz.func187.trans (congrArg some (by kernel_rfl))
 f46:=⟨Tryz.f205.name,by decide,Tryz.func205.trans (congrArg some (by kernel_rfl))⟩
 f47:=Tryz.func206.trans (congrArg some (by kernel_rfl))
 f48:=Tryz.func207.trans (congrArg some (by kernel_rfl))
 f49:=⟨Tryz.f208.name,by decide,Tryz.func208.trans (congrArg some (by kernel_rfl))⟩
 f50:=⟨Tryz.f209.name,by decide,Tryz.func209.trans (congrArg some (by kernel_rfl))⟩
 f57:=⟨Tryz.f216.name,by decide,Tryz.func216.trans (congrArg some (by kernel_rfl))⟩
 t0:=Tryz.underlying0
 a0:=Tryz.isAgg0
 z0:=Tryz.sizeOf0
 v0:=Tryz.zeroValue0
 t3:=Tryz.underlying3
 a3:=Tryz.isAgg3
 z3:=Tryz.sizeOf3
 v3:=Tryz.zeroValue3
 t4:=Tryz.underlying4
 a4:=Tryz.isAgg4
 z4:=Tryz.sizeOf4
 v4:=Tryz.zeroValue4
 t5:=Tryz.underlying5
 a5:=Tryz.isAgg5
 z5:=Tryz.sizeOf5
 v5:=Tryz.zeroValue5
 t9:=Tryz.underlying9
 a9:=Tryz.isAgg9
 z9:=Tryz.sizeOf9
 v9:=Tryz.zeroValue9
 t22:=Tryz.underlying26
 a22:=Tryz.isAgg26
 z22:=Tryz.sizeOf26
 v22:=Tryz.zeroValue26
 t25:=Tryz.underlying177
 a25:=Tryz.isAgg177
 z25:=Tryz.sizeOf177
 v25:=Tryz.zeroValue177
 t39:=Tryz.underlying127
 a39:=Tryz.isAgg127
 z39:=Tryz.sizeOf127
 v39:=Tryz.zeroValue127
 t45:=Tryz.underlying194
 a45:=Tryz.isAgg194
 z45:=Tryz.sizeOf194
 v45:=Tryz.zeroValue194
 t46:=Tryz.underlying195
 a46:=Tryz.isAgg195
 z46:=Tryz.sizeOf195
 v46:=Tryz.zeroValue195
 t50:=Tryz.underlying180
 a50:=Tryz.isAgg180
 z50:=Tryz.sizeOf180
 v50:=Tryz.zeroValue180
 t53:=Tryz.underlying41
 a53:=Tryz.isAgg41
 z53:=Tryz.sizeOf41
 v53:=Tryz.zeroValue41
 t55:=Tryz.underlying24
 a55:=Tryz.isAgg24
 z55:=Tryz.sizeOf24
 v55:=Tryz.zeroValue24
 t66:=Tryz.underlying212
 a66:=Tryz.isAgg212
 z66:=Tryz.sizeOf212
 v66:=Tryz.zeroValue212
 t70:=Tryz.underlying215
 a70:=Tryz.isAgg215
 z70:=Tryz.sizeOf215
 v70:=Tryz.zeroValue215
 t76:=Tryz.underlying221
 a76:=Tryz.isAgg221
 z76:=Tryz.sizeOf221
 v76:=Tryz.zeroValue221
 t77:=Tryz.underlying222
 a77:=Tryz.isAgg222
 z77:=Tryz.sizeOf222
 v77:=Tryz.zeroValue222 }
def Tryz.pdq175_ren : Go.Shelf.Ren:=⟨fun | 14=>175 | 20=>189 | 21=>190 | 22=>191 | 23=>192 | 24=>193 | 25=>194 | 26=>195 | 27=>196 | 46=>210 | 47=>206 | 48=>207 | 49=>211 | 50=>212 | 15=>173 | 57=>217 | 28=>186 | 29=>187 | n=>n,fun | 24=>105 | 22=>106 | 3=>3 | 25=>110 | 4=>4 | 0=>0 | 46=>195 | 45=>194 | 50=>180 | 66=>212 | 39=>127 | 55=>24 | 70=>215 | 76=>221 | 77=>222 | 53=>41 | 5=>5 | 9=>9 | n=>n,fun | n=>n⟩
theorem Tryz.pdq175 : Go.Proofs.SlLaysF0.n14 Tryz.prog Tryz.pdq175_ren:={
 mixed:=by kernel_rfl
 f14:=⟨Tryz.f175.name,by decide,Tryz.func175.trans (congrArg some (by kernel_rfl))⟩
 f15:=Tryz.func173.trans (congrArg some (by kernel_rfl))
 f20:=⟨Tryz.f189.name,by decide,Tryz.func189.trans (congrArg some (by kernel_rfl))⟩
 f21:=⟨Tryz.f190.name,by decide,Tryz.func190.trans (congrArg some (by kernel_rfl))⟩
 f22:=⟨Tryz.f191.name,by decide,Tryz.func191.trans (congrArg some (by kernel_rfl))⟩
 f23:=⟨Tryz.f192.name,by decide,Tryz.func192.trans (congrArg some (by kernel_rfl))⟩
 f24:=⟨Tryz.f193.name,by decide,Tryz.func193.trans (congrArg some (by kernel_rfl))⟩
 f25:=⟨Tryz.f194.name,by decide,Tryz.func194.trans (congrArg some (by kernel_rfl))⟩
 f26:=⟨Tryz.f195.name,by decide,Tryz.func195.trans (congrArg some (by kernel_rfl))⟩
 f27:=⟨Tryz.f196.name,by decide,Tryz.func196.trans (congrArg some (by kernel_rfl))⟩
 f28:=Tryz.func186.trans (congrArg some (by kernel_rfl))
 f29:=Tryz.func187.trans (congrArg some (by kernel_rfl))
 f46:=⟨Tryz.f210.name,by decide,Tryz.func210.trans (congrArg some (by kernel_rfl))⟩
 f47:=Tryz.func206.trans (congrArg some (by kernel_rfl))
 f48:=Tryz.func207.trans (congrArg some (by kernel_rfl))
 f49:=⟨Tryz.f211.name,by decide,Tryz.func211.trans (congrArg some (by kernel_rfl))⟩
 f50:=⟨Tryz.f212.name,by decide,Tryz.func212.trans (congrArg some (by kernel_rfl))⟩
 f57:=⟨Tryz.f217.name,by decide,Tryz.func217.trans (congrArg some (by kernel_rfl))⟩
 t0:=Tryz.underlying0
 a0:=Tryz.isAgg0
 z0:=Tryz.sizeOf0
 v0:=Tryz.zeroValue0
 t3:=Tryz.underlying3
 a3:=Tryz.isAgg3
 z3:=Tryz.sizeOf3
 v3:=Tryz.zeroValue3
 t4:=Tryz.underlying4
 a4:=Tryz.isAgg4
 z4:=Tryz.sizeOf4
 v4:=Tryz.zeroValue4
 t5:=Tryz.underlying5
 a5:=Tryz.isAgg5
 z5:=Tryz.sizeOf5
 v5:=Tryz.zeroValue5
 t9:=Tryz.underlying9
 a9:=Tryz.isAgg9
 z9:=Tryz.sizeOf9
 v9:=Tryz.zeroValue9
 t22:=Tryz.underlying106
 a22:=Tryz.isAgg106
 z22:=Tryz.sizeOf106
 v22:=Tryz.zeroValue106
 t25:=Tryz.underlying110
 a25:=Tryz.isAgg110
 z25:=Tryz.sizeOf110
 v25:=Tryz.zeroValue110
 t39:=Tryz.underlying127
 a39:=Tryz.isAgg127
 z39:=Tryz.sizeOf127
 v39:=Tryz.zeroValue127
 t45:=Tryz.underlying194
 a45:=Tryz.isAgg194
 z45:=Tryz.sizeOf194
 v45:=Tryz.zeroValue194
 t46:=Tryz.underlying195
 a46:=Tryz.isAgg195
 z46:=Tryz.sizeOf195
 v46:=Tryz.zeroValue195
 t50:=Tryz.underlying180
 a50:=Tryz.isAgg180
 z50:=Tryz.sizeOf180
 v50:=Tryz.zeroValue180
 t53:=Tryz.underlying41
 a53:=Tryz.isAgg41
 z53:=Tryz.sizeOf41
 v53:=Tryz.zeroValue41
 t55:=Tryz.underlying24
 a55:=Tryz.isAgg24
 z55:=Tryz.sizeOf24
 v55:=Tryz.zeroValue24
 t66:=Tryz.underlying212
 a66:=Tryz.isAgg212
 z66:=Tryz.sizeOf212
 v66:=Tryz.zeroValue212
 t70:=Tryz.underlying215
 a70:=Tryz.isAgg215
 z70:=Tryz.sizeOf215
 v70:=Tryz.zeroValue215
 t76:=Tryz.underlying221
 a76:=Tryz.isAgg221
 z76:=Tryz.sizeOf221
 v76:=Tryz.zeroValue221
 t77:=Tryz.underlying222
 a77:=Tryz.isAgg222
 z77:=Tryz.sizeOf222
 v77:=Tryz.zeroValue222 }
def Tryz.pdq177_ren : Go.Shelf.Ren:=⟨fun | 14=>177 | 20=>197 | 21=>198 | 22=>199 | 23=>200 | 24=>201 | 25=>202 | 26=>203 | 27=>204 | 46=>213 | 47=>206 | 48=>207 | 49=>214 | 50=>215 | 15=>173 | 57=>218 | 28=>186 | 29=>187 | n=>n,fun | 24=>103 | 22=>99 | 3=>3 | 25=>187 | 4=>4 | 0=>0 | 46=>195 | 45=>194 | 50=>180 | 66=>212 | 39=>127 | 55=>24 | 70=>215 | 76=>221 | 77=>222 | 53=>41 | 5=>5 | 9=>9 | n=>n,fun | n=>n⟩
theorem Tryz.pdq177 : Go.Proofs.SlLaysF0.n14 Tryz.prog Tryz.pdq177_ren:={
 mixed:=by kernel_rfl
 f14:=⟨Tryz.f177.name,by decide,Tryz.func177.trans (congrArg some (by kernel_rfl))⟩
 f15:=Tryz.func173.trans (congrArg some (by kernel_rfl))
 f20:=⟨Tryz.f197.name,by decide,Tryz.func197.trans (congrArg some (by kernel_rfl))⟩
 f21:=⟨Tryz.f198.name,by decide,Tryz.func198.trans (congrArg some (by kernel_rfl))⟩
 f22:=⟨Tryz.f199.name,by decide,Tryz.func199.trans (congrArg some (by kernel_rfl))⟩
 f23:=⟨Tryz.f200.name,by decide,Tryz.func200.trans (congrArg some (by kernel_rfl))⟩
 f24:=⟨Tryz.f201.name,by decide,Tryz.func201.trans (congrArg some (by kernel_rfl))⟩
 f25:=⟨Tryz.f202.name,by decide,Tryz.func202.trans (congrArg some (by kernel_rfl))⟩
 f26:=⟨Tryz.f203.name,by decide,Tryz.func203.trans (congrArg some (by kernel_rfl))⟩
 f27:=⟨Tryz.f204.name,by decide,Tryz.func204.trans (congrArg some (by kernel_rfl))⟩
 f28:=Tryz.func186.trans (congrArg some (by kernel_rfl))
 f29:=Tryz.func187.trans (congrArg some (by kernel_rfl))
 f46:=⟨Tryz.f213.name,by decide,Tryz.func213.trans (congrArg some (by kernel_rfl))⟩
 f47:=Tryz.func206.trans (congrArg some (by kernel_rfl))
 f48:=Tryz.func207.trans (congrArg some (by kernel_rfl))
 f49:=⟨Tryz.f214.name,by decide,Tryz.func214.trans (congrArg some (by kernel_rfl))⟩
 f50:=⟨Tryz.f215.name,by decide,Tryz.func215.trans (congrArg some (by kernel_rfl))⟩
 f57:=⟨Tryz.f218.name,by decide,Tryz.func218.trans (congrArg some (by kernel_rfl))⟩
 t0:=Tryz.underlying0
 a0:=Tryz.isAgg0
 z0:=Tryz.sizeOf0
 v0:=Tryz.zeroValue0
 t3:=Tryz.underlying3
 a3:=Tryz.isAgg3
 z3:=Tryz.sizeOf3
 v3:=Tryz.zeroValue3
 t4:=Tryz.underlying4
 a4:=Tryz.isAgg4
 z4:=Tryz.sizeOf4
 v4:=Tryz.zeroValue4
 t5:=Tryz.underlying5
 a5:=Tryz.isAgg5
 z5:=Tryz.sizeOf5
 v5:=Tryz.zeroValue5
 t9:=Tryz.underlying9
 a9:=Tryz.isAgg9
 z9:=Tryz.sizeOf9
 v9:=Tryz.zeroValue9
 t22:=Tryz.underlying99
 a22:=Tryz.isAgg99
 z22:=Tryz.sizeOf99
 v22:=Tryz.zeroValue99
 t25:=Tryz.underlying187
 a25:=Tryz.isAgg187
 z25:=Tryz.sizeOf187
 v25:=Tryz.zeroValue187
 t39:=Tryz.underlying127
 a39:=Tryz.isAgg127
 z39:=Tryz.sizeOf127
 v39:=Tryz.zeroValue127
 t45:=Tryz.underlying194
 a45:=Tryz.isAgg194
 z45:=Tryz.sizeOf194
 v45:=Tryz.zeroValue194
 t46:=Tryz.underlying195
 a46:=Tryz.isAgg195
 z46:=Tryz.sizeOf195
 v46:=Tryz.zeroValue195
 t50:=Tryz.underlying180
 a50:=Tryz.isAgg180
 z50:=Tryz.sizeOf180
 v50:=Tryz.zeroValue180
 t53:=Tryz.underlying41
 a53:=Tryz.isAgg41
 z53:=Tryz.sizeOf41
 v53:=Tryz.zeroValue41
 t55:=Tryz.underlying24
 a55:=Tryz.isAgg24
 z55:=Tryz.sizeOf24
 v55:=Tryz.zeroValue24
 t66:=Tryz.underlying212
 a66:=Tryz.isAgg212
 z66:=Tryz.sizeOf212
 v66:=Tryz.zeroValue212
 t70:=Tryz.underlying215
 a70:=Tryz.isAgg215
 z70:=Tryz.sizeOf215
 v70:=Tryz.zeroValue215
 t76:=Tryz.underlying221
 a76:=Tryz.isAgg221
 z76:=Tryz.sizeOf221
 v76:=Tryz.zeroValue221
 t77:=Tryz.underlying222
 a77:=Tryz.isAgg222
 z77:=Tryz.sizeOf222
 v77:=Tryz.zeroValue222 }
def Tryz.bits173_ren : Go.Shelf.Ren:=⟨fun | 15=>173 | 28=>186 | 29=>187 | n=>n,fun | 39=>127 | 3=>3 | 53=>41 | 55=>24 | 4=>4 | 5=>5 | 9=>9 | n=>n,fun | n=>n⟩
theorem Tryz.bits173 : Go.Proofs.SlLaysF0.n15 Tryz.prog Tryz.bits173_ren:={
 mixed:=by kernel_rfl
 f15:=Tryz.func173.trans (congrArg some (by kernel_rfl))
 f28:=Tryz.func186.trans (congrArg some (by kernel_rfl))
 f29:=Tryz.func187.trans (congrArg some (by kernel_rfl))
 t3:=Tryz.underlying3
 a3:=Tryz.isAgg3
 z3:=Tryz.sizeOf3
 v3:=Tryz.zeroValue3
 t4:=Tryz.underlying4
 a4:=Tryz.isAgg4
 z4:=Tryz.sizeOf4
 v4:=Tryz.zeroValue4
 t5:=Tryz.underlying5
 a5:=Tryz.isAgg5
 z5:=Tryz.sizeOf5
 v5:=Tryz.zeroValue5
 t9:=Tryz.underlying9
 a9:=Tryz.isAgg9
 z9:=Tryz.sizeOf9
 v9:=Tryz.zeroValue9
 t39:=Tryz.underlying127
 a39:=Tryz.isAgg127
 z39:=Tryz.sizeOf127
 v39:=Tryz.zeroValue127
 t53:=Tryz.underlying41
 a53:=Tryz.isAgg41
 z53:=Tryz.sizeOf41
 v53:=Tryz.zeroValue41
 t55:=Tryz.underlying24
 a55:=Tryz.isAgg24
 z55:=Tryz.sizeOf24
 v55:=Tryz.zeroValue24 }
end Go.Proofs

namespace Go.Ep
open Go.Shelf Go.RowKit Go.Lib Go.Sort Go.Proofs

theorem SortLaw.of {α:Type} [Inhabited α] {P:Program} {f g:FuncId} {k:Nat} {enc:α -> List Value} {lt:α -> α -> Bool} {cf:α -> α -> Int} (hO:SWO (ltOf cf)) (hlt:∀ x y,ltOf cf x y = lt x y) (hk:∀ x,(enc x).length = k)
  (hnil:∀ w:World,Calls P f #[.slice none 0 0,.func (.func g) #[] #[]] w fun e w'=>e = .returned (.tuple #[]) /\ Go.RowKit.Below w.heap.size w w')
  (hrow:∀ (blk off cap:Nat) (d:Array α) (w:World),HoldsK enc k w blk off d -> blk < w.heap.size -> d.size < 4611686018427387904 ->
   Calls P f #[.slice (some ⟨blk,off,none⟩) d.size cap,.func (.func g) #[] #[]] w fun e w'=>e = .returned (.tuple #[]) /\ ∃ n os,w' = sortWorldK enc k w blk off n (pdq (ltOf cf) d 0 d.size (Lib.bitLen d.size) true true) os):SortLaw P f g k enc lt:=by
 refine ⟨hnil,fun w blk cap l T cur hh hlc hcs hlen hcells=>?_⟩;have hblk:blk < w.heap.size:=(Array.getElem?_eq_some_iff.1 hh).1;have hH:HoldsK enc k w blk 0 l.toArray:=by
  intro j hj;rw [size_flatK] at hj;have hj':j < l.length * k:=by simpa using hj
  obtain ⟨hk0,h1,h2,h3⟩:=VB hj'
  constructor
  ·rw [Nat.zero_add,zg hh];show _ = some ((flatK enc k l.toArray)[j]!);rw [get_flatK _ _ _ _ hj];have hx:l[j / k]? = some l[j / k]:=List.getElem?_eq_getElem h1;have hlk:(enc l[j / k]).length = k:=hk _;have hu:(enc l[j / k])[j % k]? = some ((enc l[j / k])[j % k]'(by omega)):=List.getElem?_eq_getElem (by omega);have:=hcells (j / k) _ (j % k) _ hx hu;rw [h3] at this;rw [this];have e1:(l.toArray)[j / k]! = l[j / k]:=by simp [h1]
   rw [e1];simp [hu]
  ·simp [World.frozen?,hh]
 have hd:l.toArray.size = l.length:=by simp
 have hcall:=hrow blk 0 cap l.toArray w hH hblk (by simpa using hlen);rw [hd] at hcall;refine hcall.mono fun e w' ⟨he,n,os,hw⟩=>⟨he,?_⟩
 have hp:=pdq_sorts (ltOf cf) hO l.toArray 0 l.toArray.size (Lib.bitLen l.toArray.size) true true (Nat.zero_le _) (Nat.le_refl _) (Or.inl rfl);rw [hd] at hp
 generalize pdq (ltOf cf) l.toArray 0 l.length (Lib.bitLen l.length) true true = d' at hp hw
 obtain ⟨⟨hsz,_,hperm⟩,hsort⟩:=hp;have hsz':d'.size = l.length:=by simpa using hsz
 have hp':d'.toList.Perm l:=by
  have e1:(d'.extract 0 l.length).toList = d'.toList:=by rw [<- hsz'];simp
  have e2:(l.toArray.extract 0 l.length).toList = l:=by simp
  rw [e1,e2] at hperm;exact hperm
 have hmod:∀ b,b < w.heap.size -> (sortWorldK enc k w blk 0 n d' os).heap[b]? = if blk = b then (w.heap[b]?).map (onCells (putCells id 0 (flatK enc k d'))) else w.heap[b]?:=by
  intro b hb;have hb2:b < (putRowK enc k (Sort.ahead w n) blk 0 d').heap.size:=by simpa [putRowK,Sort.ahead] using hb
  show (grow (putRowK enc k (Sort.ahead w n) blk 0 d') os).heap[b]? = _;rw [Sort.heap_grow_old _ _ hb2];show ((w.heap.modify blk (onCells (putCells id 0 (flatK enc k d')))))[b]? = _;rw [Array.getElem?_modify]
 subst hw;refine ⟨d'.toList,(putCells id 0 (flatK enc k d') cur.toArray).toList,hp',?_,?_,?_,?_,rfl,rfl,rfl,?_,?_⟩
 ·rw [List.pairwise_iff_getElem];intro i j hi hj hij;have:=hsort i j (Nat.zero_le _) hij (by simpa [hsz'] using hj);rw [hlt] at this;have hi':i < d'.size:=by simpa using hi
  have hj':j < d'.size:=by simpa using hj
  simpa [hi',hj'] using this
 ·rw [hmod blk hblk,if_pos rfl,hh];simp [onCells]
 ·simp [putCells]
 ·intro i x j u hi hu;have hi':i < l.length:=by rw [<- hsz'];have:=(List.getElem?_eq_some_iff.1 hi).1;simpa using this
  have hj:j < k:=by rw [<- hk x];exact (List.getElem?_eq_some_iff.1 hu).1
  have hlt2:i * k + j < l.length * k:=Zu hi' hj;have hcl:l.length * k <= cur.length:=by rw [hcs];exact Nat.mul_le_mul_right k hlc
  have hin:i * k + j < d'.size * k:=by rw [hsz'];exact hlt2
  have hget:(flatK enc k d')[i * k + j]! = u:=by
   rw [get_flatK _ _ _ _ hin];have hk0:0 < k:=by omega
   have e1:(i * k + j) / k = i:=by rw [Nat.mul_comm,Nat.mul_add_div hk0,Nat.div_eq_of_lt hj];omega
   have e2:(i * k + j) % k = j:=by rw [Nat.mul_comm,Nat.mul_add_mod,Nat.mod_eq_of_lt hj]
   rw [e1,e2];have e3:d'[i]! = x:=by
    obtain ⟨h1,h2⟩:=List.getElem?_eq_some_iff.1 hi;have h1':i < d'.size:=by simpa using h1
    rw [getElem!_pos d' i h1'];simpa using h2
   rw [e3];simp [hu]
  have hc2:i * k + j < cur.length:=by omega
  simp only [putCells,Array.toList_mapIdx,List.getElem?_mapIdx];rw [List.getElem?_eq_getElem hc2];simp only [Option.map_some,id];rw [if_pos ⟨Nat.zero_le _,by rw [size_flatK];omega⟩,Nat.sub_zero,hget]
 ·show w.heap.size <= (grow (putRowK enc k (Sort.ahead w n) blk 0 d') os).heap.size;simp [grow,putRowK,Sort.ahead]
 ·intro b hb hne;rw [hmod b hb,if_neg (Ne.symm hne)]
end Go.Ep

