/- Side texts. -/
import Derived.Test.YtbgghlomkcnikaaGreatDoorProg
import Derived.Shelf.SlGeneric
import Derived.Shelf.SlLaysF0
import Derived.Ground.SlsfProg
import Derived.Shelf.SlSortCmp.WholeK
import Derived.Shelf.SlSortCmp.NoneTotal
import Derived.StillTactics
import Derived.RegionTactic
import Derived.Test.YtbgghlomkcnikaaGreatDoorMMw2
set_option linter.unusedVariables false
set_option linter.unusedSimpArgs false
namespace Go.Ep
open Go

def tabG : List Int:=[0,498536548,997073096,651767980,1994146192,1802195444,1303535960,1342533948,3988292384,4027552580,3604390888,3412177804,2607071920,2262029012,2685067896,3183342108]
def YG (c1:List PT):Int -> M (M.Step Int (M.Ex Unit Bool)):=fun i12=>
 cond ((decide (i12 < (c1.length:Int))))
  (M.bind (M.idx c1 i12) fun x14=>
  cond ((decide (30 < (x14.runs.length:Int))))
   (M.pure (.done (.ret false)))
   (M.pure (.next (IntKind.i64.wrap (i12 + 1)))))
  (M.pure (.done (.brk ())))
def Yu (c1:List PT):M Bool:=
 cond ((decide (30 < (c1.length:Int))))
  (M.pure false)
  (M.bind (M.loop (YG c1) 0) (M.exk (fun _=>
  M.pure true)))

def YH (l1:List EV):Int -> M (M.Step Int (M.Ex Unit Bool)):=fun i21=>
 cond ((decide (i21 < (l1.length:Int))))
  (M.bind (M.bind (M.idx l1 i21) fun x24=>
  cond ((decide (300 < (x24.kills.length:Int))))
   (M.pure true)
   (M.bind (M.idx l1 i21) fun x27=>
   M.pure ((decide (200 < (ByteArray.size x27.text:Int)))))) (fun v23=>
  cond v23
   (M.pure (.done (.ret false)))
   (M.pure (.next (IntKind.i64.wrap (i21 + 1))))))
  (M.pure (.done (.brk ())))
def Vp (l1:List EV) (most2:Int):M Bool:=
 cond ((decide (most2 < (l1.length:Int))))
  (M.pure false)
  (M.bind (M.loop (YH l1) 0) (M.exk (fun _=>
  M.pure true)))

def Qd (d1:DL):M Bool:=
 M.bind (M.bind (M.det (Yu d1.from_)) fun v3=>
 cond v3
  (M.bind (M.det (Yu d1.to_)) fun v6=>
  cond v6
   (M.bind (M.det (Vp d1.events 30)) fun v9=>
   M.pure v9)
   (M.pure false))
  (M.pure false)) (fun v2=>
 M.pure v2)

def jw (m1:TMsg):M Bool:=
 M.bind (M.bind (M.det (Yu m1.have_)) fun v3=>
 cond v3
  (M.bind (M.det (Yu m1.front)) fun v6=>
  cond v6
   (M.bind (M.det (Qd m1.delta)) fun v9=>
   M.pure v9)
   (M.pure false))
  (M.pure false)) (fun v2=>
 M.pure v2)

def uc (n1:Int):M Bool:=
 M.bind (cond (decide (0 < n1))
  (M.pure (decide (n1 <= 281474976710655)))
  (M.pure false)) (fun v2=>
 M.pure v2)

def xL (x1:Int):M Bool:=
 M.pure (!decide (x1 = x1))

def yN (x1:Int) (y2:Int):M Int:=
 M.bind (M.det (xL x1)) fun v3=>
 M.bind (M.det (xL y2)) fun v5=>
 cond v3
  (cond v5
   (M.pure 0)
   (M.pure (-1)))
  (cond v5
   (M.pure 1)
   (cond (decide (x1 < y2))
    (M.pure (-1))
    (cond (decide (y2 < x1))
     (M.pure 1)
     (M.pure 0))))

def wh (l1:List RN):Int × List RN -> M (M.Step (Int × List RN) (List RN)):=fun ⟨v23,some24⟩=>
 cond ((decide (v23 < (l1.length:Int))))
  (M.bind (M.bind (M.idx l1 v23) fun x27=>
  M.bind (cond (decide (0 < x27.lo))
   (cond (decide (x27.lo <= x27.hi))
    (M.pure (decide (x27.hi <= 281474976710655)))
    (M.pure false))
   (M.pure false)) (fun v29=>
  cond v29
   (M.yY ((some24.length + List.length ([x27])) * 16 <= 140737488355328) <|
   M.pure (some24 ++ [x27]))
   (M.pure some24))) (fun some26=>
  M.pure (.next (((IntKind.i64.wrap (v23 + 1)),some26)))))
  (M.pure (.done some24))
def wi (some2:List RN) (s34:List RN):Int × List RN -> M (M.Step (Int × List RN) (List RN)):=fun ⟨v69,out70⟩=>
 cond ((decide (v69 < ((some2.length):Int))))
  (M.bind (M.bind (M.idx s34 v69) fun x73=>
  M.bind (cond ((decide (0 <= ((IntKind.i64.wrap (((out70.length):Int) - 1))))))
   (M.bind (M.idx out70 ((IntKind.i64.wrap (((out70.length):Int) - 1)))) fun x77=>
   M.pure ((decide (x73.lo <= (IntKind.u64.wrap (x77.hi + 1))))))
   (M.pure false)) (fun v75=>
  cond v75
   (M.bind (M.idx out70 ((IntKind.i64.wrap (((out70.length):Int) - 1)))) fun x80=>
   M.bind (M.idx out70 ((IntKind.i64.wrap (((out70.length):Int) - 1)))) fun x82=>
   M.pure ((List.set out70 ((Int.toNat ((IntKind.i64.wrap (((out70.length):Int) - 1))))) (⟨x82.lo,(max x80.hi x73.hi)⟩:RN))))
   (M.yY ((out70.length + List.length ([x73])) * 16 <= 140737488355328) <|
   M.pure (out70 ++ [x73])))) (fun out72=>
  M.pure (.next (((IntKind.i64.wrap (v69 + 1)),out72)))))
  (M.pure (.done out70))
def yk (l1:List RN):M (List RN):=
 M.bind (M.loop (wh l1) (0,([]:List RN))) (fun some2=>
 M.yY (some2.length < 4611686018427387904)<|M.bind (M.srt Ur some2) fun s34=>
 M.bind (M.loop (wi some2 s34) (0,([]:List RN))) (fun out38=>
 M.pure out38))

def xM (x1:Int):M Bool:=
 M.pure (!decide (x1 = x1))

def yf (x1:Int) (y2:Int):M Int:=
 M.bind (M.det (xM x1)) fun v3=>
 M.bind (M.det (xM y2)) fun v5=>
 cond v3
  (cond v5
   (M.pure 0)
   (M.pure (-1)))
  (cond v5
   (M.pure 1)
   (cond (decide (x1 < y2))
    (M.pure (-1))
    (cond (decide (y2 < x1))
     (M.pure 1)
     (M.pure 0))))

def uK (m1:List (Int × List RN)):List Nat × List PT -> M (M.Step (List Nat × List PT) (List PT)):=fun ⟨seen28,c29⟩=>
 M.yY (∀ i ∈ seen28,i < m1.length)<|M.bind (M.nxt (m1.length) seen28) fun o=>match o with
 | none=>
  M.pure (.done c29)
 | some j30=>
  M.bind (M.idx m1 (Int.ofNat j30)) fun kv34=>
  M.bind (M.det (yk kv34.2)) fun v36=>
  cond ((decide (0 < ((v36.length):Int))))
   (M.yY ((c29.length + List.length ([(⟨kv34.1,v36⟩:PT)])) * 32 <= 140737488355328) <|
   M.pure (.next (((seen28 ++ [j30]),(c29 ++ [(⟨kv34.1,v36⟩:PT)])))))
   (M.pure (.next ((seen28 ++ [j30]),c29)))
def vg (m1:List (Int × List RN)):M (List PT):=
 M.bind (M.loop (uK m1) ([],([]:List PT))) (fun c3=>
 M.yY (c3.length < 4611686018427387904)<|M.bind (M.srt jJ c3) fun s41=>
 M.pure s41)

def ze (p:PT):Option (Int × List RN):=if 0 < p.dev then some (p.dev,p.runs) else none
def ux (c1:List PT):M (List (Int × List RN)):=
 M.yY (AL.growOK 16 (c1.length) (List.filterMap ze c1)) <|
 M.pure ((AL.grow ([]:List (Int × List RN)) (List.filterMap ze c1)))

def YI (c1:List PT):M (List PT):=
 M.bind (M.det (ux c1)) fun v2=>
 M.bind (M.det (vg v2)) fun v5=>
 M.pure v5

def uF (s1_1:List RN) (s2_2:List RN):Int -> M (M.Step Int (M.Ex Unit Bool)):=fun v17=>
 cond ((decide (v17 < (s1_1.length:Int))))
  (M.bind (M.idx s1_1 v17) fun x19=>
  M.bind (M.idx s2_2 v17) fun x21=>
  cond ((!(decide (x19.lo = x21.lo) && decide (x19.hi = x21.hi))))
   (M.pure (.done (.ret false)))
   (M.pure (.next (IntKind.i64.wrap (v17 + 1)))))
  (M.pure (.done (.brk ())))
def yC (s1_1:List RN) (s2_2:List RN):M Bool:=
 cond ((!decide ((s1_1.length:Int) = (s2_2.length:Int))))
  (M.pure false)
  (M.bind (M.loop (uF s1_1 s2_2) 0) (M.exk (fun _=>
  M.pure true)))

def Vq (x1:PT) (y2:PT):M Bool:=
 M.bind (cond (decide (x1.dev = y2.dev))
  (M.bind (M.det (yC x1.runs y2.runs)) fun v5=>
  M.pure v5)
  (M.pure false)) (fun v3=>
 M.pure v3)

def zN (s1_1:List PT) (s2_2:List PT):Int -> M (M.Step Int (M.Ex Unit Bool)):=fun v21=>
 cond ((decide (v21 < (s1_1.length:Int))))
  (M.bind (M.idx s1_1 v21) fun x23=>
  M.bind (M.idx s2_2 v21) fun x25=>
  M.bind (M.det (Vq x23 x25)) fun v27=>
  cond (!v27)
   (M.pure (.done (.ret false)))
   (M.pure (.next (IntKind.i64.wrap (v21 + 1)))))
  (M.pure (.done (.brk ())))
def zP (s1_1:List PT) (s2_2:List PT):M Bool:=
 cond ((!decide ((s1_1.length:Int) = (s2_2.length:Int))))
  (M.pure false)
  (M.bind (M.loop (zN s1_1 s2_2) 0) (M.exk (fun _=>
  M.pure true)))

def zra (a1:List PT) (b2:List PT):M Bool:=
 M.bind (M.det (zP a1 b2)) fun v3=>
 M.pure v3

def uL (c1:List PT):M Bool:=
 M.bind (M.det (YI c1)) fun v2=>
 M.bind (M.det (zra c1 v2)) fun v4=>
 M.pure v4

def uM :List RN × List RN × List RN -> M (M.Step (List RN × List RN × List RN) (List RN)):=fun ⟨a53,b54,out55⟩=>
 M.bind (cond ((decide (0 < (a53.length:Int))))
  (M.pure ((decide (0 < (b54.length:Int)))))
  (M.pure false)) (fun v56=>
 cond v56
  (M.bind (M.idx a53 0) fun x59=>
  M.bind (M.idx b54 0) fun x61=>
  M.bind (M.idx a53 0) fun x63=>
  M.bind (M.idx b54 0) fun x65=>
  M.bind (cond ((decide ((max x59.lo x61.lo) <= (min x63.hi x65.hi))))
   (M.yY ((out55.length + List.length ([(⟨(max x59.lo x61.lo),(min x63.hi x65.hi)⟩:RN)])) * 16 <= 140737488355328) <|
   M.pure ((out55 ++ [(⟨(max x59.lo x61.lo),(min x63.hi x65.hi)⟩:RN)])))
   (M.pure out55)) (fun out67=>
  M.bind (M.idx a53 0) fun x70=>
  M.bind (M.idx b54 0) fun x72=>
  cond (decide (x70.hi < x72.hi))
   (M.yY ((0:Int) <= 1 /\ (1:Int) <= (a53.length:Int) /\ (a53.length:Int) <= (a53.length:Int)) <|
   M.pure (.next (((List.drop (Int.toNat 1) (List.take (Int.toNat (a53.length:Int)) a53)),b54,out67))))
   (M.yY ((0:Int) <= 1 /\ (1:Int) <= (b54.length:Int) /\ (b54.length:Int) <= (b54.length:Int)) <|
   M.pure (.next ((a53,(List.drop (Int.toNat 1) (List.take (Int.toNat (b54.length:Int)) b54)),out67))))))
  (M.pure (.done out55)))
def XP (a1:List RN) (b2:List RN):M (List RN):=
 M.bind (M.det (yk a1)) fun v3=>
 M.bind (M.det (yk b2)) fun v5=>
 M.bind (M.loop uM (v3,v5,([]:List RN))) (fun out7=>
 M.pure out7)

def uN (v2:List RN):Int × Int × List RN -> M (M.Step (Int × Int × List RN) (Int × List RN)):=fun ⟨at17,v18,out19⟩=>
 cond ((decide (v18 < ((v2.length):Int))))
  (M.bind (M.idx v2 v18) fun x21=>
  M.yY ((out19.length + List.length ([(⟨at17,(IntKind.u64.wrap (x21.lo - 1))⟩:RN)])) * 16 <= 140737488355328) <|
  M.pure (.next (((IntKind.u64.wrap (x21.hi + 1)),(IntKind.i64.wrap (v18 + 1)),(out19 ++ [(⟨at17,(IntKind.u64.wrap (x21.lo - 1))⟩:RN)])))))
  (M.pure (.done (at17,out19)))
def XQ (l1:List RN):M (List RN):=
 M.bind (M.det (yk l1)) fun v2=>
 M.bind (M.loop (uN v2) (1,0,([]:List RN))) (fun ⟨at4,out5⟩=>
 M.yY ((out5.length + List.length ([(⟨at4,281474976710655⟩:RN)])) * 16 <= 140737488355328) <|
 M.pure (out5 ++ [(⟨at4,281474976710655⟩:RN)]))

def ud (a1:List RN) (b2:List RN):M (List RN):=
 M.bind (M.det (XQ b2)) fun v3=>
 M.bind (M.det (XP a1 v3)) fun v5=>
 M.pure v5

def xu (v6:List (Int × List RN)):List Nat × (List (Int × List RN)) -> M (M.Step (List Nat × (List (Int × List RN))) (List (Int × List RN))):=fun ⟨seen32,v33⟩=>
 M.yY (∀ i ∈ seen32,i < v33.length)<|M.bind (M.nxt (v33.length) seen32) fun o=>match o with
 | none=>
  M.pure (.done v33)
 | some j34=>
  M.bind (M.idx v33 (Int.ofNat j34)) fun kv38=>
  M.bind (M.det (ud kv38.2 (AL.getZ v6 kv38.1 ([]:List RN)))) fun v40=>
  M.yY (AL.has v33 kv38.1 = true) <|
  M.pure (.next ((seen32 ++ [j34]),(AL.set v33 kv38.1 v40)))
def xU (a1:List PT) (b2:List PT):M (List PT):=
 M.bind (M.det (ux a1)) fun v3=>
 M.bind (M.det (ux b2)) fun v6=>
 M.bind (M.loop (xu v6) ([],v3)) (fun v9=>
 M.bind (M.det (vg v9)) fun v44=>
 M.pure v44)

def XR (a1:List PT) (b2:List PT):M (List PT):=
 M.bind (M.det (xU a1 b2)) fun v3=>
 M.pure v3

def vV (a1:List PT) (b2:List PT):M Bool:=
 M.bind (M.det (XR a1 b2)) fun v3=>
 M.pure ((decide (((v3.length):Int) = 0)))

def uy (d1:DT):M Bool:=
 M.bind (cond (decide (0 < d1.dev))
  (cond (decide (0 < d1.n))
   (M.pure (decide (d1.n <= 281474976710655)))
   (M.pure false))
  (M.pure false)) (fun v2=>
 M.pure v2)

def uz (v1:Int):M (Int × Int):=
 M.pure (((IntKind.u16.wrap (Int.fdiv v1 (2 ^ 48))),(QR .u64 v1 281474976710655)))

def YJ (v1:Int):M (DT × Bool):=
 M.bind (M.det (uz v1)) fun v2=>
 M.bind (M.det (uy (⟨v2.1,v2.2⟩:DT))) fun v4=>
 cond (!v4)
  (M.pure ((⟨0,0⟩:DT),false))
  (M.pure ((⟨v2.1,v2.2⟩:DT),true))

def YK (f1:Int):M Bool:=
 M.bind (cond (decide (1 <= f1))
  (M.pure (decide (f1 <= 5)))
  (M.pure false)) (fun v2=>
 M.pure v2)

def xi (s1:ByteArray):Int -> M (M.Step Int (M.Ex Unit Bool)):=fun v20=>
 cond ((decide (v20 < (ByteArray.size s1:Int))))
  (M.bind (M.bind (M.idx (zr s1) v20) fun b23=>
  cond (decide (b23 < 32))
   (M.pure true)
   (M.bind (M.idx (zr s1) v20) fun b26=>
   M.pure (decide (126 < b26)))) (fun v22=>
  cond v22
   (M.pure (.done (.ret false)))
   (M.pure (.next (IntKind.i64.wrap (v20 + 1))))))
  (M.pure (.done (.brk ())))
def YL (s1:ByteArray):M Bool:=
 cond ((decide (60 < (ByteArray.size s1:Int))))
  (M.pure false)
  (M.bind (M.loop (xi s1) 0) (M.exk (fun _=>
  M.pure true)))

def ZA (a1:DT) (b2:DT):M Int:=
 M.bind (M.det (yf a1.dev b2.dev)) fun v3=>
 cond (!decide (v3 = 0))
  (M.pure v3)
  (M.bind (M.det (yN a1.n b2.n)) fun v6=>
  M.pure v6)

def yO (l1:List DT):Int -> M (M.Step Int (M.Ex Unit Bool)):=fun v23=>
 cond ((decide (v23 < (l1.length:Int))))
  (M.bind (cond (decide (0 < v23))
   (M.bind (M.idx l1 (IntKind.i64.wrap (v23 - 1))) fun x27=>
   M.bind (M.idx l1 v23) fun x29=>
   M.bind (M.det (ZA x27 x29)) fun v31=>
   M.pure (decide (0 <= v31)))
   (M.pure false)) (fun v25=>
  cond v25
   (M.pure (.done (.ret false)))
   (M.pure (.next (IntKind.i64.wrap (v23 + 1))))))
  (M.pure (.done (.brk ())))
def YM (l1:List DT):M Bool:=
 M.bind (M.loop (yO l1) 0) (M.exk (fun _=>
 M.pure true))

def xj (e1:EV):Int -> M (M.Step Int (M.Ex Unit Bool)):=fun v43=>
 cond ((decide (v43 < (e1.kills.length:Int))))
  (M.bind (M.idx e1.kills v43) fun x45=>
  M.bind (M.bind (M.det (uy x45)) fun v48=>
  cond (!v48)
   (M.pure true)
   (M.pure (((decide (x45.dev = e1.dot.dev) && decide (x45.n = e1.dot.n)))))) (fun v47=>
  cond v47
   (M.pure (.done (.ret false)))
   (M.pure (.next (IntKind.i64.wrap (v43 + 1))))))
  (M.pure (.done (.brk ())))
def ue (e1:EV):M Bool:=
 M.bind (M.det (YJ e1.cid)) fun v2=>
 M.bind (cond (!v2.2)
  (M.pure true)
  (M.bind (M.det (uy e1.dot)) fun v6=>
  M.pure (!v6))) (fun v4=>
 cond v4
  (M.pure false)
  (M.bind (cond (decide (e1.kind = 1))
   (M.bind (M.bind (M.det (YK e1.field)) fun v11=>
   cond (!v11)
    (M.pure true)
    (M.bind (M.det (YL e1.text)) fun v14=>
    M.pure (!v14))) (fun v10=>
   cond v10
    (M.pure (.ret false))
    (M.pure (.brk ()))))
   (cond (decide (e1.kind = 2))
    (M.bind (cond (!decide (e1.field = 0))
     (M.pure true)
     (M.pure ((!decide (e1.text = (⟨#[]⟩:ByteArray)))))) (fun v18=>
    cond v18
     (M.pure (.ret false))
     (M.pure (.brk ()))))
    (M.pure (.ret false)))) (M.exk (fun _=>
  M.bind (cond ((decide (256 < (e1.kills.length:Int))))
   (M.pure true)
   (M.bind (M.det (YM e1.kills)) fun v23=>
   M.pure (!v23))) (fun v21=>
  cond v21
   (M.pure false)
   (M.bind (M.loop (xj e1) 0) (M.exk (fun _=>
   M.pure true))))))))

def XS (c1:List PT) (dev2:Int):M (List RN):=
 M.bind (M.det (ux c1)) fun v3=>
 M.bind (M.det (yk (AL.getZ v3 dev2 ([]:List RN)))) fun v6=>
 M.pure v6

def vh (x1:RN) (n2:Int):M Int:=
 M.bind (M.det (yN x1.hi n2)) fun v3=>
 M.pure v3

def zO (x1:List RN) (target2:Int):Int × Int -> M (M.Step (Int × Int) Int):=fun ⟨i18,j19⟩=>
 cond (decide (i18 < j19))
  (M.bind (M.idx x1 ((IntKind.i64.wrap ((Int.fdiv ((IntKind.u64.wrap (IntKind.i64.wrap (i18 + j19)))) (2 ^ 1)))))) fun x21=>
  M.bind (M.det (vh x21 target2)) fun v23=>
  cond (decide (v23 < 0))
   (M.pure (.next (((IntKind.i64.wrap (((IntKind.i64.wrap ((Int.fdiv ((IntKind.u64.wrap (IntKind.i64.wrap (i18 + j19)))) (2 ^ 1))))) + 1)),j19))))
   (M.pure (.next ((i18,(IntKind.i64.wrap ((Int.fdiv ((IntKind.u64.wrap (IntKind.i64.wrap (i18 + j19)))) (2 ^ 1)))))))))
  (M.pure (.done i18))
def zK (x1:List RN) (target2:Int):M (Int × Bool):=
 M.bind (M.loop (zO x1 target2) (0,(x1.length:Int))) (fun i3=>
 M.bind (cond ((decide (i3 < (x1.length:Int))))
  (M.bind (M.idx x1 i3) fun x28=>
  M.bind (M.det (vh x28 target2)) fun v30=>
  M.pure (decide (v30 = 0)))
  (M.pure false)) (fun v26=>
 M.pure (i3,v26)))

def VG (l1:List RN) (n2:Int):M Bool:=
 M.bind (M.det (yk l1)) fun v3=>
 M.bind (M.det (zK v3 n2)) fun v5=>
 M.bind (cond ((decide (v5.1 < (v3.length:Int))))
  (M.bind (M.idx v3 v5.1) fun x9=>
  M.pure (decide (x9.lo <= n2)))
  (M.pure false)) (fun v7=>
 M.pure v7)

def Yv (c1:List PT) (d2:DT):M Bool:=
 M.bind (cond (decide (0 < d2.dev))
  (M.bind (M.det (XS c1 d2.dev)) fun v5=>
  M.bind (M.det (VG v5 d2.n)) fun v7=>
  M.pure v7)
  (M.pure false)) (fun v3=>
 M.pure v3)

def zo (s1:List DT) (v2:DT):Int -> M (M.Step Int (M.Ex Unit Int)):=fun v12=>
 cond ((decide (v12 < (s1.length:Int))))
  (M.bind (M.idx s1 v12) fun x14=>
  cond (((decide (v2.dev = x14.dev) && decide (v2.n = x14.n))))
   (M.pure (.done (.ret v12)))
   (M.pure (.next (IntKind.i64.wrap (v12 + 1)))))
  (M.pure (.done (.brk ())))
def yZ (s1:List DT) (v2:DT):M Int:=
 M.bind (M.loop (zo s1 v2) 0) (M.exk (fun _=>
 M.pure (-1)))

def yI (s1:List DT) (v2:DT):M Bool:=
 M.bind (M.det (yZ s1 v2)) fun v3=>
 M.pure (decide (0 <= v3))

def jx (l1:List DT) (d2:DT):M Bool:=
 M.bind (M.det (yI l1 d2)) fun v3=>
 M.pure v3

def Yw (e1:EV) (d2:DT):M Bool:=
 M.bind (M.det (jx e1.kills d2)) fun v3=>
 M.pure v3

def vE (l1:List EV) (d2:DT):Int -> M (M.Step Int (M.Ex Unit Bool)):=fun v16=>
 cond ((decide (v16 < (l1.length:Int))))
  (M.bind (M.idx l1 v16) fun x18=>
  M.bind (M.det (Yw x18 d2)) fun v20=>
  cond v20
   (M.pure (.done (.ret true)))
   (M.pure (.next (IntKind.i64.wrap (v16 + 1)))))
  (M.pure (.done (.brk ())))
def YN (l1:List EV) (d2:DT):M Bool:=
 M.bind (M.loop (vE l1 d2) 0) (M.exk (fun _=>
 M.pure false))

def yD (s1:List DT):M (List DT):=
 M.bind (M.isNil s1) fun b2=>
 cond b2
  (M.pure ([]:List DT))
  (M.yY ((List.length ([]:List DT) + s1.length) * 16 <= 140737488355328) <|
  M.pure (([]:List DT) ++ s1))

def zW (row1:List DT) (k148:Int):Int × Int × List DT -> M (M.Step (Int × Int × List DT) (Int × List DT)):=fun ⟨k197,k2_198,v199⟩=>
 cond ((decide (k2_198 < ((((row1.length - Int.toNat k148):Nat):Int)))))
  (M.bind (M.yY ((0:Int) <= k2_198 /\ k2_198 < (((row1.length - Int.toNat k148):Nat):Int))<|M.bind (M.idx v199 ((((Int.toNat k148) + Int.toNat k2_198):Nat):Int)) fun x203=>
  M.yY ((0:Int) <= (IntKind.i64.wrap (k2_198 - 1)) /\ (IntKind.i64.wrap (k2_198 - 1)) < (((row1.length - Int.toNat k148):Nat):Int))<|M.bind (M.idx v199 ((((Int.toNat k148) + Int.toNat (IntKind.i64.wrap (k2_198 - 1))):Nat):Int)) fun x207=>
  cond ((!(decide (x203.dev = x207.dev) && decide (x203.n = x207.n))))
   (M.yY ((0:Int) <= k2_198 /\ k2_198 < (((row1.length - Int.toNat k148):Nat):Int))<|M.bind (M.idx v199 ((((Int.toNat k148) + Int.toNat k2_198):Nat):Int)) fun x212=>
   M.bind (M.idx v199 k197) fun x216=>
   M.pure (((IntKind.i64.wrap (k197 + 1)),(List.set v199 (Int.toNat k197) x212))))
   (M.pure (k197,v199))) (fun ⟨k201,v202⟩=>
  M.pure (.next ((k201,(IntKind.i64.wrap (k2_198 + 1)),v202)))))
  (M.pure (.done (k197,v199)))
def zX (row1:List DT):Int -> M (M.Step Int (M.Ex Unit (List DT))):=fun k148=>
 cond ((decide (k148 < ((row1.length):Int))))
  (M.bind (M.bind (M.idx row1 k148) fun x150=>
  M.bind (M.idx row1 (IntKind.i64.wrap (k148 - 1))) fun x152=>
  cond (((decide (x150.dev = x152.dev) && decide (x150.n = x152.n))))
   (M.yY ((0:Int) <= k148 /\ k148 <= (row1.length:Int)) <|
   M.bind (M.loop (zW row1 k148) (k148,1,row1)) (fun ⟨k156,v157⟩=>
   M.yY ((0:Int) <= k156 /\ k156 <= (v157.length:Int)) <|
   M.yY ((Int.toNat k156) + (v157.length - Int.toNat k156) <= v157.length) <|
   M.yY ((0:Int) <= 0 /\ (0:Int) <= k156 /\ k156 <= (List.length ((List.take (Int.toNat k156) v157 ++ List.replicate (v157.length - Int.toNat k156) (⟨0,0⟩:DT) ++ List.drop ((Int.toNat k156) + (v157.length - Int.toNat k156)) v157)):Int)) <|
   M.pure (.ret ((.done ((.ret (((List.take (Int.toNat k156) ((List.take (Int.toNat k156) v157 ++ List.replicate (v157.length - Int.toNat k156) (⟨0,0⟩:DT) ++ List.drop ((Int.toNat k156) + (v157.length - Int.toNat k156)) v157))))))))))))
   (M.pure (.brk ()))) (M.exk (fun _=>
  M.pure (.next (IntKind.i64.wrap (k148 + 1))))))
  (M.pure (.done (.brk ())))
def zf (row1:List DT):M (List DT):=
 cond ((decide (((row1.length):Int) < 2)))
  (M.pure row1)
  (M.bind (M.loop (zX row1) 1) (M.exk (fun _=>
  M.pure row1)))

def YO (l1:List DT):M (List DT):=
 M.bind (M.det (yD l1)) fun v2=>
 M.yY (v2.length < 4611686018427387904)<|M.bind (M.srt zT v2) fun s4=>
 M.bind (M.det (zf s4)) fun y8=>
 M.pure y8

def vF (l1:List DT) (c2:List PT) (has3:Bool):Int × List DT -> M (M.Step (Int × List DT) (List DT)):=fun ⟨v23,out24⟩=>
 cond ((decide (v23 < (l1.length:Int))))
  (M.bind (M.bind (M.idx l1 v23) fun x27=>
  M.bind (M.det (Yv c2 x27)) fun v29=>
  cond (v29 == has3)
   (M.yY ((out24.length + List.length ([x27])) * 16 <= 140737488355328) <|
   M.pure (out24 ++ [x27]))
   (M.pure out24)) (fun out26=>
  M.pure (.next (((IntKind.i64.wrap (v23 + 1)),out26)))))
  (M.pure (.done out24))
def WR (l1:List DT) (c2:List PT) (has3:Bool):M (List DT):=
 M.bind (M.loop (vF l1 c2 has3) (0,([]:List DT))) (fun out4=>
 M.bind (M.det (YO out4)) fun v33=>
 M.pure v33)

def YP (l1:List DT) (c2:List PT):M (List DT):=
 M.bind (M.det (WR l1 c2 false)) fun v3=>
 M.pure v3

def vG (l1:List EV):Int × List DT -> M (M.Step (Int × List DT) (List DT)):=fun ⟨v15,out16⟩=>
 cond ((decide (v15 < (l1.length:Int))))
  (M.bind (M.idx l1 v15) fun x18=>
  M.yY ((out16.length + List.length ([x18.dot])) * 16 <= 140737488355328) <|
  M.yY ((List.length (out16 ++ [x18.dot]) + x18.kills.length) * 16 <= 140737488355328) <|
  M.pure (.next (((IntKind.i64.wrap (v15 + 1)),((out16 ++ [x18.dot]) ++ x18.kills)))))
  (M.pure (.done out16))
def YQ (l1:List EV):M (List DT):=
 M.bind (M.loop (vG l1) (0,([]:List DT))) (fun out2=>
 M.bind (M.det (YO out2)) fun v22=>
 M.pure v22)

def xl (d1:DL):Int -> M (M.Step Int (M.Ex Unit Bool)):=fun v58=>
 cond ((decide (v58 < (d1.events.length:Int))))
  (M.bind (M.idx d1.events v58) fun x60=>
  M.bind (M.bind (M.det (ue x60)) fun v63=>
  cond (!v63)
   (M.pure true)
   (M.bind (M.det (Yv d1.from_ x60.dot)) fun v66=>
   M.pure v66)) (fun v62=>
  cond v62
   (M.pure (.done (.ret false)))
   (M.bind (cond (decide (0 < v58))
    (M.bind (M.idx d1.events (IntKind.i64.wrap (v58 - 1))) fun x71=>
    M.bind (M.det (ZA x71.dot x60.dot)) fun v73=>
    M.pure (decide (0 <= v73)))
    (M.pure false)) (fun v69=>
   cond v69
    (M.pure (.done (.ret false)))
    (M.bind (cond (decide (x60.kind = 1))
     (M.bind (M.det (YN d1.events x60.dot)) fun v78=>
     M.pure v78)
     (M.pure false)) (fun v76=>
    cond v76
     (M.pure (.done (.ret false)))
     (M.pure (.next (IntKind.i64.wrap (v58 + 1))))))))))
  (M.pure (.done (.brk ())))
def uf (d1:DL):M Bool:=
 M.bind (M.bind (M.det (uL d1.from_)) fun v3=>
 cond (!v3)
  (M.pure true)
  (M.bind (M.det (uL d1.to_)) fun v6=>
  cond (!v6)
   (M.pure true)
   (M.bind (M.det (vV d1.from_ d1.to_)) fun v9=>
   cond (!v9)
    (M.pure true)
    (M.pure ((decide (4096 < (d1.events.length:Int)))))))) (fun v2=>
 cond v2
  (M.pure false)
  (M.bind (M.loop (xl d1) 0) (M.exk (fun _=>
  M.bind (M.det (YQ d1.events)) fun v81=>
  M.bind (M.det (YP v81 d1.to_)) fun v83=>
  M.pure ((decide ((v83.length:Int) = 0)))))))

def Vr (d1:DL):M Bool:=
 M.bind (cond ((decide ((d1.from_.length:Int) = 0)))
  (M.pure ((decide ((d1.to_.length:Int) = 0))))
  (M.pure false)) (fun v2=>
 M.pure v2)

def XT (m1:TMsg):M Bool:=
 M.bind (cond (decide (m1.slot = 0))
  (cond (decide (m1.try_ = 0))
   (cond (decide (m1.why = 0))
    (cond ((decide ((m1.have_.length:Int) = 0)))
     (cond ((decide ((m1.front.length:Int) = 0)))
      (M.bind (M.det (Vr m1.delta)) fun v8=>
      cond v8
       (M.pure ((decide ((m1.delta.events.length:Int) = 0))))
       (M.pure false))
      (M.pure false))
     (M.pure false))
    (M.pure false))
   (M.pure false))
  (M.pure false)) (fun v2=>
 M.pure v2)

def Vs (m1:TMsg):M Bool:=
 M.bind (cond (decide (16 <= m1.slot))
  (M.pure true)
  (M.bind (M.det (uc m1.try_)) fun v4=>
  M.pure (!v4))) (fun v2=>
 cond v2
  (M.pure false)
  (M.bind (cond (decide (m1.kind = 1))
   (cond (!decide (m1.dev = 0))
    (M.pure true)
    (M.pure (!decide (m1.epoch = 0))))
   (M.pure false)) (fun v7=>
  cond v7
   (M.pure false)
   (M.bind (cond (decide (m1.kind = 2))
    (M.bind (M.bind (M.det (uf m1.delta)) fun v16=>
    cond (!v16)
     (M.pure true)
     (M.pure ((decide (0 < (m1.delta.from_.length:Int)))))) (fun v15=>
    cond v15
     (M.pure (.ret false))
     (M.pure (.brk (([]:List PT),([]:List PT),([]:List EV))))))
    (M.pure (.brk (m1.delta.from_,m1.delta.to_,m1.delta.events)))) (M.exk (fun ⟨m11,m12,m13⟩=>
   M.bind (M.det (XT (⟨m1.kind,0,0,m1.dev,m1.epoch,m1.why,m1.have_,m1.front,(⟨m11,m12,m13⟩:DL)⟩:TMsg))) fun v20=>
   M.pure v20))))))

def VH (c1:List PT) (dev2:Int):M (List PT):=
 M.bind (M.det (XS c1 dev2)) fun v3=>
 M.bind (M.det (YI ([(⟨dev2,v3⟩:PT)]))) fun v5=>
 M.pure v5

def Vt (c1:List PT) (dev2:Int):M Bool:=
 M.bind (M.bind (M.det (uL c1)) fun v4=>
 cond v4
  (M.bind (M.det (VH c1 dev2)) fun v7=>
  M.bind (M.det (vV c1 v7)) fun v9=>
  M.pure v9)
  (M.pure false)) (fun v3=>
 M.pure v3)

def vH (l1:List EV) (dev2:Int) (have3:List PT):Int -> M (M.Step Int (M.Ex Unit Bool)):=fun v39=>
 cond ((decide (v39 < (l1.length:Int))))
  (M.bind (M.idx l1 v39) fun x41=>
  M.bind (M.bind (M.det (ue x41)) fun v44=>
  cond (!v44)
   (M.pure true)
   (cond (!decide (x41.dot.dev = dev2))
    (M.pure true)
    (M.bind (M.det (Yv have3 x41.dot)) fun v48=>
    cond v48
     (M.pure true)
     (cond (decide (0 < v39))
      (M.bind (M.idx l1 (IntKind.i64.wrap (v39 - 1))) fun x52=>
      M.bind (M.det (ZA x52.dot x41.dot)) fun v54=>
      M.pure (decide (0 <= v54)))
      (M.pure false))))) (fun v43=>
  cond v43
   (M.pure (.done (.ret false)))
   (M.pure (.next (IntKind.i64.wrap (v39 + 1))))))
  (M.pure (.done (.brk ())))
def YR (l1:List EV) (dev2:Int) (have3:List PT):M Bool:=
 M.bind (M.loop (vH l1 dev2 have3) 0) (M.exk (fun _=>
 M.bind (cond ((decide (1 <= (l1.length:Int))))
  (M.pure ((decide ((l1.length:Int) <= 4))))
  (M.pure false)) (fun v57=>
 M.pure v57)))

def uO (m1:TMsg):M Bool:=
 M.bind (cond (!decide (m1.kind = 1))
  (cond (decide (m1.dev = 0))
   (M.pure true)
   (M.bind (M.det (uc m1.epoch)) fun v5=>
   M.pure (!v5)))
  (M.pure false)) (fun v2=>
 cond v2
  (M.pure false)
  (M.bind (M.bind (M.bind (cond (decide (m1.kind = 1))
   (M.pure (decide (m1.kind = 1)))
   (M.pure (decide (m1.kind = 2)))) (fun v14=>
  cond v14
   (M.bind (M.det (Vs m1)) fun v17=>
   M.pure (.ret (.ret v17)))
   (cond (decide (m1.kind = 6))
    (M.bind (M.det (Vt m1.have_ m1.dev)) fun v20=>
    cond (!v20)
     (M.pure (.ret (.ret false)))
     (M.pure (.brk ())))
    (M.bind (cond (decide (m1.kind = 3))
     (M.pure (decide (m1.kind = 3)))
     (M.pure (decide (m1.kind = 7)))) (fun v23=>
    cond v23
     (M.pure (.brk ()))
     (cond (decide (m1.kind = 4))
      (M.bind (M.bind (M.bind (M.det (uf m1.delta)) fun v28=>
      cond (!v28)
       (M.pure true)
       (M.bind (M.det (uL m1.front)) fun v31=>
       cond (!v31)
        (M.pure true)
        (M.bind (M.det (vV m1.front m1.delta.to_)) fun v34=>
        M.pure (!v34)))) (fun v27=>
      cond v27
       (M.pure (.ret false))
       (M.pure (.brk (m1.why,m1.have_,([]:List PT),([]:List PT),([]:List PT),([]:List EV)))))) (fun z=>M.pure (.ret z)))
      (cond (decide (m1.kind = 5))
       (M.bind (M.bind (M.bind (M.det (Vt m1.have_ m1.dev)) fun v39=>
       cond (!v39)
        (M.pure true)
        (M.bind (M.det (YR m1.delta.events m1.dev m1.have_)) fun v42=>
        M.pure (!v42))) (fun v38=>
       cond v38
        (M.pure (.ret false))
        (M.pure (.brk (m1.why,([]:List PT),m1.front,m1.delta.from_,m1.delta.to_,([]:List EV)))))) (fun z=>M.pure (.ret z)))
       (cond (decide (m1.kind = 8))
        (M.pure (.ret (.brk (m1.why,m1.have_,m1.front,m1.delta.from_,m1.delta.to_,m1.delta.events))))
        (cond (decide (m1.kind = 9))
         (M.bind (M.bind (cond (!decide (m1.why = 1))
          (M.pure (!decide (m1.why = 2)))
          (M.pure false)) (fun v47=>
         cond v47
          (M.pure (.ret false))
          (M.pure (.brk (0,m1.have_,m1.front,m1.delta.from_,m1.delta.to_,m1.delta.events))))) (fun z=>M.pure (.ret z)))
         (M.pure (.ret (.ret false)))))))))))) (M.exk (fun _=>
  M.bind (M.det (uL m1.have_)) fun v50=>
  cond (!v50)
   (M.pure (.ret false))
   (M.pure (.brk (m1.why,([]:List PT),m1.front,m1.delta.from_,m1.delta.to_,m1.delta.events)))))) (M.exk (fun ⟨m8,m9,m10,m11,m12,m13⟩=>
  M.bind (M.det (XT (⟨m1.kind,m1.slot,m1.try_,m1.dev,m1.epoch,m8,m9,m10,(⟨m11,m12,m13⟩:DL)⟩:TMsg))) fun v53=>
  M.pure v53))))

def uP :Int × Int -> M (M.Step (Int × Int) Int):=fun ⟨v7,n8⟩=>
 cond (decide (0 < v7))
  (M.pure (.next (((Int.fdiv v7 (2 ^ 8)),(IntKind.i64.wrap (n8 + 1))))))
  (M.pure (.done n8))
def XU (v1:Int):M Int:=
 M.bind (M.loop uP (v1,0)) (fun n2=>
 M.pure n2)

def YS (v1:Int) (i2:Int):M Int:=
 cond ((decide (7 < (IntKind.u64.wrap i2))))
  (M.pure 0)
  (M.yY ((0:Int) <= ((IntKind.u64.wrap (8 * (IntKind.u64.wrap i2))))) <|
  M.pure ((IntKind.u8.wrap ((Int.fdiv v1 (2 ^ (min (Int.toNat ((IntKind.u64.wrap (8 * (IntKind.u64.wrap i2))))) 64)))))))

def vI (v2:Int):Int × List Int -> M (M.Step (Int × List Int) (List Int)):=fun ⟨i19,v20⟩=>
 cond (decide (0 <= i19))
  (M.bind (M.det (YS v2 i19)) fun v22=>
  M.yY ((v20.length + List.length ([v22])) * 1 <= 140737488355328) <|
  M.pure (.next (((IntKind.i64.wrap (i19 - 1)),(v20 ++ [v22])))))
  (M.pure (.done v20))
def YT (b1:List Int) (v2:Int):M (List Int):=
 M.bind (M.det (XU v2)) fun v3=>
 M.yY ((0:Int) <= ((IntKind.i64.wrap (((IntKind.i64.wrap ((b1.length:Int) + v3))) + 1))) /\ ((IntKind.i64.wrap (((IntKind.i64.wrap ((b1.length:Int) + v3))) + 1))) * 1 <= 140737488355328) <|
 M.yY ((List.length ([]:List Int) + b1.length) * 1 <= 140737488355328) <|
 M.yY ((List.length (([]:List Int) ++ b1) + List.length ([(IntKind.u8.wrap v3)])) * 1 <= 140737488355328) <|
 M.bind (M.loop (vI v2) (((IntKind.i64.wrap (v3 - 1)),((([]:List Int) ++ b1) ++ [(IntKind.u8.wrap v3)])))) (fun v8=>
 M.pure v8)

def Vu (b2:List Int):Int × Int -> M (M.Step (Int × Int) Int):=fun ⟨c16,v17⟩=>
 cond ((decide (v17 < (b2.length:Int))))
  (M.bind (M.idx b2 v17) fun x19=>
  M.yY ((0:Int) <= ((QR .u32 (XO .u32 c16 (IntKind.u32.wrap x19)) 15)) /\ ((QR .u32 (XO .u32 c16 (IntKind.u32.wrap x19)) 15)) < ((16:Nat):Int)) <|
  M.yY ((0:Int) <= ((QR .u32 ((XO .u32 ((XO .u32 ((tabG.getD (Int.toNat ((QR .u32 (XO .u32 c16 (IntKind.u32.wrap x19)) 15))) 0)) (Int.fdiv c16 (2 ^ 4)))) ((IntKind.u32.wrap (Int.fdiv x19 (2 ^ 4)))))) 15)) /\ ((QR .u32 ((XO .u32 ((XO .u32 ((tabG.getD (Int.toNat ((QR .u32 (XO .u32 c16 (IntKind.u32.wrap x19)) 15))) 0)) (Int.fdiv c16 (2 ^ 4)))) ((IntKind.u32.wrap (Int.fdiv x19 (2 ^ 4)))))) 15)) < ((16:Nat):Int)) <|
  M.pure (.next (((XO .u32 ((tabG.getD (Int.toNat ((QR .u32 ((XO .u32 ((XO .u32 ((tabG.getD (Int.toNat ((QR .u32 (XO .u32 c16 (IntKind.u32.wrap x19)) 15))) 0)) (Int.fdiv c16 (2 ^ 4)))) ((IntKind.u32.wrap (Int.fdiv x19 (2 ^ 4)))))) 15))) 0)) ((Int.fdiv ((XO .u32 ((tabG.getD (Int.toNat ((QR .u32 (XO .u32 c16 (IntKind.u32.wrap x19)) 15))) 0)) (Int.fdiv c16 (2 ^ 4)))) (2 ^ 4)))),(IntKind.i64.wrap (v17 + 1))))))
  (M.pure (.done c16))
def XV (sum1:Int) (b2:List Int):M Int:=
 M.bind (M.loop (Vu b2) ((XO .u32 4294967295 sum1),0)) (fun c3=>
 M.pure (XO .u32 4294967295 c3))

def Vv (parts1:List (List Int)):Int × Int -> M (M.Step (Int × Int) Int):=fun ⟨sum15,v16⟩=>
 cond ((decide (v16 < (parts1.length:Int))))
  (M.bind (M.idx parts1 v16) fun x18=>
  M.bind (M.det (XV sum15 x18)) fun v20=>
  M.pure (.next ((v20,(IntKind.i64.wrap (v16 + 1))))))
  (M.pure (.done sum15))
def xZa (parts1:List (List Int)):M Int:=
 M.bind (M.loop (Vv parts1) (0,0)) (fun sum2=>
 M.pure sum2)

def VI (parts1:List (List Int)):M (Int × Int × Int × Int):=
 M.bind (M.det (xZa parts1)) fun v2=>
 M.pure (((IntKind.u8.wrap v2),(IntKind.u8.wrap (Int.fdiv v2 (2 ^ 8))),(IntKind.u8.wrap (Int.fdiv v2 (2 ^ 16))),(IntKind.u8.wrap (Int.fdiv v2 (2 ^ 24)))))

def XW (kind1:Int) (body2:List Int):M (List Int):=
 M.yY ((0:Int) <= ((IntKind.i64.wrap ((body2.length:Int) + 5))) /\ ((IntKind.i64.wrap ((body2.length:Int) + 5))) * 1 <= 140737488355328) <|
 M.yY ((List.length ([]:List Int) + List.length ([kind1])) * 1 <= 140737488355328) <|
 M.yY ((List.length (([]:List Int) ++ [kind1]) + body2.length) * 1 <= 140737488355328) <|
 M.bind (M.det (VI ([((([]:List Int) ++ [kind1]) ++ body2)]))) fun v6=>
 M.yY ((List.length (((([]:List Int) ++ [kind1]) ++ body2)) + List.length ([v6.1,v6.2.1,v6.2.2.1,v6.2.2.2])) * 1 <= 140737488355328) <|
 M.pure ((((([]:List Int) ++ [kind1]) ++ body2) ++ [v6.1,v6.2.1,v6.2.2.1,v6.2.2.2]))

def yF (b1:List Int) (row2:List Int):M (List Int):=
 M.yY ((row2.length + b1.length) * 1 <= 140737488355328) <|
 M.pure (row2 ++ b1)

def zg (c1:Int) (row2:List Int):M (List Int):=
 M.bind (M.det (yF ([c1]) row2)) fun y3=>
 M.pure y3

def zG (v1:Int) (row2:List Int):M (List Int):=
 M.bind (M.det (YT ([]:List Int) v1)) fun v3=>
 M.bind (M.det (yF v3 row2)) fun y5=>
 M.pure y5

def yo (x79:PT):Int × List Int -> M (M.Step (Int × List Int) (List Int)):=fun ⟨v101,v102⟩=>
 cond ((decide (v101 < (x79.runs.length:Int))))
  (M.bind (M.idx x79.runs v101) fun x104=>
  M.bind (M.det (zG x104.lo v102)) fun y106=>
  M.bind (M.det (zG x104.hi y106)) fun y108=>
  M.pure (.next (((IntKind.i64.wrap (v101 + 1)),y108))))
  (M.pure (.done v102))
def yp (v3:List PT):Int × List Int -> M (M.Step (Int × List Int) (List Int)):=fun ⟨v75,v76⟩=>
 cond ((decide (v75 < ((v3.length):Int))))
  (M.bind (M.bind (M.idx v3 v75) fun x79=>
  M.bind (M.det (zG (IntKind.u64.wrap x79.dev) v76)) fun y81=>
  M.bind (M.det (zG (IntKind.u64.wrap (x79.runs.length:Int)) y81)) fun y83=>
  M.loop (yo x79) (0,y83)) (fun v78=>
  M.pure (.next (((IntKind.i64.wrap (v75 + 1)),v78)))))
  (M.pure (.done v76))
def zk (c1:List PT) (row2:List Int):M (List Int):=
 M.bind (M.det (YI c1)) fun v3=>
 M.bind (M.det (zG ((IntKind.u64.wrap ((v3.length):Int))) row2)) fun y5=>
 M.loop (yp v3) (0,y5)

def xI (d1:DT) (row2:List Int):M (List Int):=
 M.bind (M.det (zG (IntKind.u64.wrap d1.dev) row2)) fun y3=>
 M.bind (M.det (zG d1.n y3)) fun y5=>
 M.pure y5

def yg (s1:ByteArray) (row2:List Int):M (List Int):=
 M.bind (M.det (zG (IntKind.u64.wrap (ByteArray.size s1:Int)) row2)) fun y3=>
 M.yY (ByteArray.size s1 <= 9223372036854775807) <|
 M.bind (M.det (yF (zr s1) y3)) fun y6=>
 M.pure y6

def yP (l1:List DT):Int × List DT -> M (M.Step (Int × List DT) (List DT)):=fun ⟨v22,some23⟩=>
 cond ((decide (v22 < (l1.length:Int))))
  (M.bind (M.bind (M.idx l1 v22) fun x26=>
  M.bind (M.det (uy x26)) fun v28=>
  cond v28
   (M.yY ((some23.length + List.length ([x26])) * 16 <= 140737488355328) <|
   M.pure (some23 ++ [x26]))
   (M.pure some23)) (fun some25=>
  M.pure (.next (((IntKind.i64.wrap (v22 + 1)),some25)))))
  (M.pure (.done some23))
def yh (v32:List DT):Int × List Int -> M (M.Step (Int × List Int) (List Int)):=fun ⟨v48,v49⟩=>
 cond ((decide (v48 < ((v32.length):Int))))
  (M.bind (M.idx v32 v48) fun x51=>
  M.bind (M.det (xI x51 v49)) fun y53=>
  M.pure (.next (((IntKind.i64.wrap (v48 + 1)),y53))))
  (M.pure (.done v49))
def xm (l1:List DT) (row2:List Int):M (List Int):=
 M.bind (M.loop (yP l1) (0,([]:List DT))) (fun some3=>
 M.bind (M.det (YO some3)) fun v32=>
 M.bind (M.det (zG ((IntKind.u64.wrap ((v32.length):Int))) row2)) fun y34=>
 M.loop (yh v32) (0,y34))

def ZB (e1:EV) (row2:List Int):M (List Int):=
 M.bind (M.det (xI e1.dot row2)) fun y3=>
 M.bind (M.det (zg e1.kind y3)) fun y5=>
 M.bind (M.det (zG e1.cid y5)) fun y7=>
 M.bind (M.det (zg e1.field y7)) fun y9=>
 M.bind (M.det (yg e1.text y9)) fun y11=>
 M.bind (M.det (xm e1.kills y11)) fun y13=>
 M.pure y13

def yq (l1:List EV):Int × List Int -> M (M.Step (Int × List Int) (List Int)):=fun ⟨v17,v18⟩=>
 cond ((decide (v17 < (l1.length:Int))))
  (M.bind (M.idx l1 v17) fun x20=>
  M.bind (M.det (ZB x20 v18)) fun y22=>
  M.pure (.next (((IntKind.i64.wrap (v17 + 1)),y22))))
  (M.pure (.done v18))
def yc (l1:List EV) (row2:List Int):M (List Int):=
 M.bind (M.det (zG (IntKind.u64.wrap (l1.length:Int)) row2)) fun y3=>
 M.loop (yq l1) (0,y3)

def yJ (d1:DL) (row2:List Int):M (List Int):=
 M.bind (M.det (zk d1.from_ row2)) fun y3=>
 M.bind (M.det (zk d1.to_ y3)) fun y5=>
 M.bind (M.det (yc d1.events y5)) fun y7=>
 M.pure y7

def yH (row1:List Int):M (List Int × List Int):=
 M.yY (row1.length * 1 <= 140737488355328) <|
 M.pure (row1,row1)

def yQ (m1:TMsg):M (List Int × Int):=
 M.bind (M.det (uO m1)) fun v2=>
 cond (!v2)
  (M.pure (([]:List Int),1))
  (M.bind (cond (decide (m1.kind = 1))
   (M.pure true)
   (M.pure (decide (m1.kind = 2)))) (fun v5=>
  M.bind (cond v5
   (M.bind (M.det (zg m1.slot ([]:List Int))) fun y9=>
   M.bind (M.det (zG m1.try_ y9)) fun y11=>
   M.pure y11)
   (M.pure ([]:List Int))) (fun v7=>
  M.bind (cond (!decide (m1.kind = 1))
   (M.bind (M.det (zG (IntKind.u64.wrap m1.dev) v7)) fun y15=>
   M.bind (M.det (zG m1.epoch y15)) fun y17=>
   M.pure y17)
   (M.pure v7)) (fun v13=>
  M.bind (cond (decide (m1.kind = 9))
   (M.bind (M.det (zg m1.why v13)) fun y21=>
   M.pure y21)
   (M.bind (cond (decide (m1.kind = 3))
    (M.pure (decide (m1.kind = 3)))
    (cond (decide (m1.kind = 6))
     (M.pure (decide (m1.kind = 6)))
     (M.pure (decide (m1.kind = 7))))) (fun v23=>
   cond v23
    (M.bind (M.det (zk m1.have_ v13)) fun y27=>
    M.pure y27)
    (cond (decide (m1.kind = 2))
     (M.bind (M.det (yJ m1.delta v13)) fun y30=>
     M.pure y30)
     (cond (decide (m1.kind = 4))
      (M.bind (M.det (yJ m1.delta v13)) fun y33=>
      M.bind (M.det (zk m1.front y33)) fun y35=>
      M.pure y35)
      (cond (decide (m1.kind = 5))
       (M.bind (M.det (zk m1.have_ v13)) fun y38=>
       M.bind (M.det (yc m1.delta.events y38)) fun y40=>
       M.pure y40)
       (M.pure v13))))))) (fun v19=>
  M.bind (M.det (yH v19)) fun y42=>
  M.bind (M.det (XW m1.kind y42.1)) fun v44=>
  M.pure (v44,0))))))

def vi (a1:List Int) (b2:List Int):M Bool:=
 M.pure ((decide ((Qb a1) = (Qb b2))))

def vj :M Bool:=
 M.bind (M.det (yQ ((⟨8,0,0,1,2,0,([]:List PT),([]:List PT),(⟨([]:List PT),([]:List PT),([]:List EV)⟩:DL)⟩:TMsg)))) fun v1=>
 M.bind (cond (decide (v1.2 = 0))
  (cond ((decide ((v1.1.length:Int) = 9)))
   (M.yY ((0:Int) <= 0 /\ (0:Int) <= 5 /\ 5 <= (v1.1.length:Int)) <|
   M.bind (M.det (vi ((List.drop (Int.toNat 0) (List.take (Int.toNat 5) v1.1))) ([8,1,1,1,2]))) fun v7=>
   M.pure v7)
   (M.pure false))
  (M.pure false)) (fun v3=>
 M.pure v3)

def vW (n1:Int):M Bool:=
 M.bind (cond (decide (1 <= n1))
  (M.pure (decide (n1 <= 281474976710655)))
  (M.pure false)) (fun v2=>
 M.pure v2)

def xaa (a1:List RN) (b2:List RN):Int -> M (M.Step Int (M.Ex Unit Bool)):=fun i17=>
 cond ((decide (i17 < (a1.length:Int))))
  (M.bind (M.idx a1 i17) fun x19=>
  M.bind (M.idx b2 i17) fun x21=>
  cond ((!(decide (x19.lo = x21.lo) && decide (x19.hi = x21.hi))))
   (M.pure (.done (.ret false)))
   (M.pure (.next (IntKind.i64.wrap (i17 + 1)))))
  (M.pure (.done (.brk ())))
def zsa (a1:List RN) (b2:List RN):M Bool:=
 cond ((!decide ((a1.length:Int) = (b2.length:Int))))
  (M.pure false)
  (M.bind (M.loop (xaa a1 b2) 0) (M.exk (fun _=>
  M.pure true)))

def XX (a1:List PT) (b2:List PT):Int -> M (M.Step Int (M.Ex Unit Bool)):=fun i33=>
 cond ((decide (i33 < (a1.length:Int))))
  (M.bind (M.bind (M.idx a1 i33) fun x36=>
  M.bind (M.idx b2 i33) fun x38=>
  cond (!decide (x36.dev = x38.dev))
   (M.pure true)
   (M.bind (M.idx a1 i33) fun x41=>
   M.bind (M.idx b2 i33) fun x43=>
   M.bind (M.det (zsa x41.runs x43.runs)) fun v45=>
   M.pure (!v45))) (fun v35=>
  cond v35
   (M.pure (.done (.ret false)))
   (M.pure (.next (IntKind.i64.wrap (i33 + 1))))))
  (M.pure (.done (.brk ())))
def jK (a1:List PT) (b2:List PT):M Bool:=
 cond ((!decide ((a1.length:Int) = (b2.length:Int))))
  (M.pure false)
  (M.bind (M.loop (XX a1 b2) 0) (M.exk (fun _=>
  M.pure true)))

def Vw (x1:RN):M Bool:=
 M.bind (cond (decide (1 <= x1.lo))
  (cond (decide (x1.lo <= x1.hi))
   (M.pure (decide (x1.hi <= 281474976710655)))
   (M.pure false))
  (M.pure false)) (fun v2=>
 M.pure v2)

def YU (l1:List RN) (n2:Int):Int -> M (M.Step Int (M.Ex Unit Bool)):=fun i30=>
 cond ((decide (i30 < (l1.length:Int))))
  (M.bind (M.bind (M.idx l1 i30) fun x33=>
  M.bind (M.det (Vw x33)) fun v35=>
  cond v35
   (M.bind (M.idx l1 i30) fun x38=>
   cond (decide (x38.lo <= n2))
    (M.bind (M.idx l1 i30) fun x41=>
    M.pure (decide (n2 <= x41.hi)))
    (M.pure false))
   (M.pure false)) (fun v32=>
  cond v32
   (M.pure (.done (.ret true)))
   (M.pure (.next (IntKind.i64.wrap (i30 + 1))))))
  (M.pure (.done (.brk ())))
def WS (l1:List RN) (n2:Int):M Bool:=
 M.bind (M.loop (YU l1 n2) 0) (M.exk (fun _=>
 M.pure false))

def YV (l1:List Int) (n2:Int):Bool × Int × List Int -> M (M.Step (Bool × Int × List Int) (Bool × List Int)):=fun ⟨done43,i44,out45⟩=>
 cond ((decide (i44 < (l1.length:Int))))
  (M.bind (M.bind (cond (!done43)
   (M.bind (M.idx l1 i44) fun x51=>
   M.pure (decide (n2 <= x51)))
   (M.pure false)) (fun v49=>
  M.bind (cond v49
   (M.yY ((out45.length + List.length ([n2])) * 8 <= 140737488355328) <|
   M.pure (true,(out45 ++ [n2])))
   (M.pure (done43,out45))) (fun ⟨done53,out54⟩=>
  M.bind (M.idx l1 i44) fun x57=>
  cond (!decide (x57 = n2))
   (M.bind (M.idx l1 i44) fun x60=>
   M.yY ((out54.length + List.length ([x60])) * 8 <= 140737488355328) <|
   M.pure (done53,(out54 ++ [x60])))
   (M.pure (done53,out54))))) (fun ⟨done47,out48⟩=>
  M.pure (.next ((done47,(IntKind.i64.wrap (i44 + 1)),out48)))))
  (M.pure (.done (done43,out45)))
def Vx (l1:List Int) (n2:Int):M (List Int):=
 M.bind (M.loop (YV l1 n2) (false,0,([]:List Int))) (fun ⟨done3,out4⟩=>
 M.bind (cond (!done3)
  (M.yY ((out4.length + List.length ([n2])) * 8 <= 140737488355328) <|
  M.pure (out4 ++ [n2]))
  (M.pure out4)) (fun out63=>
 M.pure out63))

def vJ (a1:List RN) (b2:List RN):List Int × Int -> M (M.Step (List Int × Int) (List Int)):=fun ⟨out38,i39⟩=>
 cond ((decide (i39 < (((List.length ((([]:List RN) ++ a1) ++ b2)):Int)))))
  (M.bind (M.bind (M.idx (((([]:List RN) ++ a1) ++ b2)) i39) fun x42=>
  M.bind (M.det (Vw x42)) fun v44=>
  cond v44
   (M.bind (M.idx (((([]:List RN) ++ a1) ++ b2)) i39) fun x47=>
   M.bind (M.det (Vx out38 x47.lo)) fun v49=>
   M.bind (M.idx (((([]:List RN) ++ a1) ++ b2)) i39) fun x51=>
   M.bind (M.det (Vx v49 (IntKind.u64.wrap (x51.hi + 1)))) fun v53=>
   M.pure v53)
   (M.pure out38)) (fun out41=>
  M.pure (.next ((out41,(IntKind.i64.wrap (i39 + 1)))))))
  (M.pure (.done out38))
def YW (a1:List RN) (b2:List RN):M (List Int):=
 M.yY ((List.length ([]:List RN) + a1.length) * 16 <= 140737488355328) <|
 M.yY ((List.length (([]:List RN) ++ a1) + b2.length) * 16 <= 140737488355328) <|
 M.bind (M.loop (vJ a1 b2) (([]:List Int),0)) (fun out5=>
 M.pure out5)

def YX (v4:List Int) (a1:List RN) (b2:List RN) (how3:Int):Int × List RN -> M (M.Step (Int × List RN) (List RN)):=fun ⟨i85,out86⟩=>
 cond ((decide ((IntKind.i64.wrap (i85 + 1)) < (v4.length:Int))))
  (M.bind (M.bind (M.idx v4 i85) fun x89=>
  M.bind (M.det (WS a1 x89)) fun v91=>
  M.bind (M.idx v4 i85) fun x93=>
  M.bind (M.det (WS b2 x93)) fun v95=>
  M.bind (cond v91
   (M.pure true)
   (M.pure v95)) (fun in97=>
  M.bind (cond (decide (how3 = 1))
   (M.bind (cond v91
    (M.pure v95)
    (M.pure false)) (fun in101=>
   M.pure in101))
   (M.pure in97)) (fun in99=>
  M.bind (cond (decide (how3 = 2))
   (M.bind (cond v91
    (M.pure (!v95))
    (M.pure false)) (fun in105=>
   M.pure in105))
   (M.pure in99)) (fun in103=>
  M.bind (cond in103
   (cond ((decide (0 <= ((IntKind.i64.wrap (((out86.length):Int) - 1))))))
    (M.bind (M.idx out86 ((IntKind.i64.wrap (((out86.length):Int) - 1)))) fun x110=>
    M.bind (M.idx v4 i85) fun x112=>
    M.pure ((decide ((IntKind.u64.wrap (x110.hi + 1)) = x112))))
    (M.pure false))
   (M.pure false)) (fun v107=>
  cond v107
   (M.bind (M.idx v4 (IntKind.i64.wrap (i85 + 1))) fun x115=>
   M.bind (M.idx out86 ((IntKind.i64.wrap (((out86.length):Int) - 1)))) fun x117=>
   M.pure ((List.set out86 ((Int.toNat ((IntKind.i64.wrap (((out86.length):Int) - 1))))) ((⟨x117.lo,(IntKind.u64.wrap (x115 - 1))⟩:RN)))))
   (cond in103
    (M.bind (M.idx v4 i85) fun x120=>
    M.bind (M.idx v4 (IntKind.i64.wrap (i85 + 1))) fun x122=>
    M.yY ((out86.length + List.length ([(⟨x120,(IntKind.u64.wrap (x122 - 1))⟩:RN)])) * 16 <= 140737488355328) <|
    M.pure ((out86 ++ [(⟨x120,(IntKind.u64.wrap (x122 - 1))⟩:RN)])))
    (M.pure out86))))))) (fun out88=>
  M.pure (.next (((IntKind.i64.wrap (i85 + 1)),out88)))))
  (M.pure (.done out86))
def WT (a1:List RN) (b2:List RN) (how3:Int):M (List RN):=
 M.bind (M.det (YW a1 b2)) fun v4=>
 M.bind (M.loop (YX v4 a1 b2 how3) (0,([]:List RN))) (fun out6=>
 M.pure out6)

def XY (a1:List RN) (b2:List RN):M (List RN):=
 M.bind (M.det (WT a1 b2 0)) fun v3=>
 M.pure v3

def ZC (c1:List PT) (dev2:Int):List RN × Int -> M (M.Step (List RN × Int) (List RN)):=fun ⟨out28,i29⟩=>
 cond ((decide (i29 < (c1.length:Int))))
  (M.bind (M.bind (M.bind (M.idx c1 i29) fun x33=>
  cond (decide (x33.dev = dev2))
   (M.pure (!decide (dev2 = 0)))
   (M.pure false)) (fun v32=>
  cond v32
   (M.bind (M.idx c1 i29) fun x37=>
   M.bind (M.det (XY out28 x37.runs)) fun v39=>
   M.pure v39)
   (M.pure out28))) (fun out31=>
  M.pure (.next ((out31,(IntKind.i64.wrap (i29 + 1)))))))
  (M.pure (.done out28))
def ZD (c1:List PT) (dev2:Int):M (List RN):=
 M.bind (M.loop (ZC c1 dev2) (([]:List RN),0)) (fun out3=>
 M.pure out3)

def uV (a1:DT) (b2:DT):M Int:=
 cond (((decide (a1.dev = b2.dev) && decide (a1.n = b2.n))))
  (M.pure 0)
  (M.bind (cond (decide (a1.dev < b2.dev))
   (M.pure true)
   (cond (decide (a1.dev = b2.dev))
    (M.pure (decide (a1.n < b2.n)))
    (M.pure false))) (fun v4=>
  cond v4
   (M.pure (-1))
   (M.pure 1)))

def YY (l1:List DT) (d2:DT):Int × List DT -> M (M.Step (Int × List DT) (List DT)):=fun ⟨i26,out27⟩=>
 cond ((decide (i26 < (l1.length:Int))))
  (M.bind (M.bind (M.idx l1 i26) fun x30=>
  M.bind (M.det (uV x30 d2)) fun v32=>
  cond (decide (v32 < 0))
   (M.bind (M.idx l1 i26) fun x35=>
   M.yY ((out27.length + List.length ([x35])) * 16 <= 140737488355328) <|
   M.pure (out27 ++ [x35]))
   (M.pure out27)) (fun out29=>
  M.pure (.next (((IntKind.i64.wrap (i26 + 1)),out29)))))
  (M.pure (.done out27))
def ug (l1:List DT) (d2:DT):Int × List DT -> M (M.Step (Int × List DT) (List DT)):=fun ⟨i62,out63⟩=>
 cond ((decide (i62 < (l1.length:Int))))
  (M.bind (M.bind (M.idx l1 i62) fun x66=>
  M.bind (M.det (uV x66 d2)) fun v68=>
  cond (decide (0 < v68))
   (M.bind (M.idx l1 i62) fun x71=>
   M.yY ((out63.length + List.length ([x71])) * 16 <= 140737488355328) <|
   M.pure (out63 ++ [x71]))
   (M.pure out63)) (fun out65=>
  M.pure (.next (((IntKind.i64.wrap (i62 + 1)),out65)))))
  (M.pure (.done out63))
def uW (l1:List DT) (d2:DT):M (List DT):=
 M.bind (M.loop (YY l1 d2) (0,([]:List DT))) (fun out3=>
 M.yY ((out3.length + List.length ([d2])) * 16 <= 140737488355328) <|
 M.bind (M.loop (ug l1 d2) (0,(out3 ++ [d2]))) (fun out39=>
 M.pure out39))

def ZE (a1:List PT):List DT × Int -> M (M.Step (List DT × Int) (List DT)):=fun ⟨out16,i17⟩=>
 cond ((decide (i17 < (a1.length:Int))))
  (M.bind (M.idx a1 i17) fun x19=>
  M.bind (M.det (uW out16 (⟨x19.dev,1⟩:DT))) fun v21=>
  M.pure (.next ((v21,(IntKind.i64.wrap (i17 + 1))))))
  (M.pure (.done out16))
def vk (b2:List PT):List DT × Int -> M (M.Step (List DT × Int) (List DT)):=fun ⟨out36,i37⟩=>
 cond ((decide (i37 < (b2.length:Int))))
  (M.bind (M.idx b2 i37) fun x39=>
  M.bind (M.det (uW out36 (⟨x39.dev,1⟩:DT))) fun v41=>
  M.pure (.next ((v41,(IntKind.i64.wrap (i37 + 1))))))
  (M.pure (.done out36))
def VJ (a1:List PT) (b2:List PT):M (List DT):=
 M.bind (M.loop (ZE a1) (([]:List DT),0)) (fun out3=>
 M.bind (M.loop (vk b2) (out3,0)) (fun out23=>
 M.pure out23))

def VK (a1:List RN) (b2:List RN):M (List RN):=
 M.bind (M.det (WT a1 b2 1)) fun v3=>
 M.pure v3

def XZ (a1:List RN) (b2:List RN):M (List RN):=
 M.bind (M.det (WT a1 b2 2)) fun v3=>
 M.pure v3

def YZ (v4:List DT) (a1:List PT) (b2:List PT) (how3:Int):Int × List PT -> M (M.Step (Int × List PT) (List PT)):=fun ⟨i57,out58⟩=>
 cond ((decide (i57 < (v4.length:Int))))
  (M.bind (M.bind (M.idx v4 i57) fun x61=>
  M.bind (M.det (ZD a1 x61.dev)) fun v63=>
  M.bind (M.idx v4 i57) fun x65=>
  M.bind (M.det (ZD b2 x65.dev)) fun v67=>
  M.bind (M.det (XY v63 v67)) fun v69=>
  M.bind (cond (decide (how3 = 1))
   (M.bind (M.det (VK v63 v67)) fun v73=>
   M.pure v73)
   (M.pure v69)) (fun z71=>
  M.bind (cond (decide (how3 = 2))
   (M.bind (M.det (XZ v63 v67)) fun v77=>
   M.pure v77)
   (M.pure z71)) (fun z75=>
  cond ((decide (0 < (z75.length:Int))))
   (M.bind (M.idx v4 i57) fun x80=>
   M.yY ((out58.length + List.length ([(⟨x80.dev,z75⟩:PT)])) * 32 <= 140737488355328) <|
   M.pure (out58 ++ [(⟨x80.dev,z75⟩:PT)]))
   (M.pure out58)))) (fun out60=>
  M.pure (.next (((IntKind.i64.wrap (i57 + 1)),out60)))))
  (M.pure (.done out58))
def Vy (a1:List PT) (b2:List PT) (how3:Int):M (List PT):=
 M.bind (M.det (VJ a1 b2)) fun v4=>
 M.bind (M.loop (YZ v4 a1 b2 how3) (0,([]:List PT))) (fun out6=>
 M.pure out6)

def ZF (c1:List PT):M (List PT):=
 M.bind (M.det (Vy c1 ([]:List PT) 0)) fun v2=>
 M.pure v2

def vK (c1:List PT):M Bool:=
 M.bind (M.det (ZF c1)) fun v2=>
 M.bind (M.det (jK c1 v2)) fun v4=>
 M.pure v4

def ZG (a1:List PT) (b2:List PT):M Bool:=
 M.bind (M.det (ZF a1)) fun v3=>
 M.bind (M.det (ZF b2)) fun v5=>
 M.bind (M.det (jK v3 v5)) fun v7=>
 M.pure v7

def ZH (c1:List PT) (dev2:Int):M (List PT):=
 M.bind (M.det (ZD c1 dev2)) fun v3=>
 cond ((decide ((v3.length:Int) = 0)))
  (M.pure ([]:List PT))
  (M.pure ([(⟨dev2,v3⟩:PT)]))

def Xa (a1:List PT) (b2:List PT):M (List PT):=
 M.bind (M.det (Vy a1 b2 2)) fun v3=>
 M.pure v3

def vX (a1:List PT) (b2:List PT):M Bool:=
 M.bind (M.det (Xa a1 b2)) fun v3=>
 M.pure ((decide (((v3.length):Int) = 0)))

def uQ (d1:DT):M Bool:=
 M.bind (cond (decide (1 <= d1.dev))
  (cond (decide (1 <= d1.n))
   (M.pure (decide (d1.n < 281474976710656)))
   (M.pure false))
  (M.pure false)) (fun v2=>
 M.pure v2)

def Xb (v1:Int):M (Int × Int):=
 M.pure (((IntKind.u16.wrap (IntKind.u64.wrap (Int.tdiv v1 281474976710656))),(Int.tmod v1 281474976710656)))

def Ya (v1:Int):M (DT × Bool):=
 M.bind (M.det (Xb v1)) fun v2=>
 M.bind (M.det (uQ (⟨v2.1,v2.2⟩:DT))) fun v4=>
 cond (!v4)
  (M.pure ((⟨0,0⟩:DT),false))
  (M.pure ((⟨v2.1,v2.2⟩:DT),true))

def VL (f1:Int):M Bool:=
 M.bind (cond (decide (1 <= f1))
  (M.pure (decide (f1 <= 5)))
  (M.pure false)) (fun v2=>
 M.pure v2)

def vl (s1:ByteArray):Int -> M (M.Step Int (M.Ex Unit Bool)):=fun i19=>
 cond ((decide (i19 < (ByteArray.size s1:Int))))
  (M.bind (M.bind (M.idx (zr s1) i19) fun b22=>
  cond (decide (b22 < 32))
   (M.pure true)
   (M.bind (M.idx (zr s1) i19) fun b25=>
   M.pure (decide (126 < b25)))) (fun v21=>
  cond v21
   (M.pure (.done (.ret false)))
   (M.pure (.next (IntKind.i64.wrap (i19 + 1))))))
  (M.pure (.done (.brk ())))
def VM (s1:ByteArray):M Bool:=
 M.bind (M.loop (vl s1) 0) (M.exk (fun _=>
 M.pure ((decide ((ByteArray.size s1:Int) <= 60)))))

def yr (l1:List DT):Int -> M (M.Step Int (M.Ex Unit Bool)):=fun i19=>
 cond ((decide (i19 < (l1.length:Int))))
  (M.bind (M.idx l1 (IntKind.i64.wrap (i19 - 1))) fun x21=>
  M.bind (M.idx l1 i19) fun x23=>
  M.bind (M.det (uV x21 x23)) fun v25=>
  cond (decide (0 <= v25))
   (M.pure (.done (.ret false)))
   (M.pure (.next (IntKind.i64.wrap (i19 + 1)))))
  (M.pure (.done (.brk ())))
def Yb (l1:List DT):M Bool:=
 M.bind (M.loop (yr l1) 1) (M.exk (fun _=>
 M.pure true))

def Yc (l1:List DT) (d2:DT):Int -> M (M.Step Int (M.Ex Unit Bool)):=fun i12=>
 cond ((decide (i12 < (l1.length:Int))))
  (M.bind (M.idx l1 i12) fun x14=>
  cond (((decide (x14.dev = d2.dev) && decide (x14.n = d2.n))))
   (M.pure (.done (.ret true)))
   (M.pure (.next (IntKind.i64.wrap (i12 + 1)))))
  (M.pure (.done (.brk ())))
def Vz (l1:List DT) (d2:DT):M Bool:=
 M.bind (M.loop (Yc l1 d2) 0) (M.exk (fun _=>
 M.pure false))

def vn (e1:EV):Int -> M (M.Step Int (M.Ex Unit Bool)):=fun i37=>
 cond ((decide (i37 < (e1.kills.length:Int))))
  (M.bind (M.idx e1.kills i37) fun x39=>
  M.bind (M.det (uQ x39)) fun v41=>
  cond (!v41)
   (M.pure (.done (.ret false)))
   (M.pure (.next (IntKind.i64.wrap (i37 + 1)))))
  (M.pure (.done (.brk ())))
def Xc (e1:EV):M Bool:=
 M.bind (M.det (Ya e1.cid)) fun v2=>
 M.bind (cond (!v2.2)
  (M.pure true)
  (M.bind (M.det (uQ e1.dot)) fun v6=>
  cond (!v6)
   (M.pure true)
   (cond (!decide (e1.kind = 1))
    (M.pure (!decide (e1.kind = 2)))
    (M.pure false)))) (fun v4=>
 cond v4
  (M.pure false)
  (M.bind (cond (decide (e1.kind = 1))
   (M.bind (M.det (VL e1.field)) fun v13=>
   cond (!v13)
    (M.pure true)
    (M.bind (M.det (VM e1.text)) fun v16=>
    cond (!v16)
     (M.pure true)
     (cond (decide (e1.kind = 2))
      (cond (!decide (e1.field = 0))
       (M.pure true)
       (M.pure ((!decide (e1.text = (⟨#[]⟩:ByteArray))))))
      (M.pure false))))
   (cond (decide (e1.kind = 2))
    (cond (!decide (e1.field = 0))
     (M.pure true)
     (M.pure ((!decide (e1.text = (⟨#[]⟩:ByteArray))))))
    (M.pure false))) (fun v11=>
  cond v11
   (M.pure false)
   (M.bind (M.loop (vn e1) 0) (M.exk (fun _=>
   M.bind (cond ((decide ((e1.kills.length:Int) <= 256)))
    (M.bind (M.det (Yb e1.kills)) fun v46=>
    cond v46
     (M.bind (M.det (Vz e1.kills e1.dot)) fun v49=>
     M.pure (!v49))
     (M.pure false))
    (M.pure false)) (fun v44=>
   M.pure v44)))))))

def Yx (c1:List PT) (d2:DT):M Bool:=
 M.bind (M.bind (M.det (uQ d2)) fun v4=>
 cond v4
  (M.bind (M.det (ZD c1 d2.dev)) fun v7=>
  M.bind (M.det (WS v7 d2.n)) fun v9=>
  M.pure v9)
  (M.pure false)) (fun v3=>
 M.pure v3)

def ZI (l1:List EV) (d2:DT):Int -> M (M.Step Int (M.Ex Unit Bool)):=fun i_16=>
 cond ((decide (i_16 < (l1.length:Int))))
  (M.bind (M.idx l1 i_16) fun x18=>
  M.bind (M.det (Vz x18.kills d2)) fun v20=>
  cond v20
   (M.pure (.done (.ret true)))
   (M.pure (.next (IntKind.i64.wrap (i_16 + 1)))))
  (M.pure (.done (.brk ())))
def Xd (l1:List EV) (d2:DT):M Bool:=
 M.bind (M.loop (ZI l1 d2) 0) (M.exk (fun _=>
 M.pure false))

def ZJ (l1:List DT) (c2:List PT):List DT × Int -> M (M.Step (List DT × Int) (List DT)):=fun ⟨out28,i29⟩=>
 cond ((decide (i29 < (l1.length:Int))))
  (M.bind (M.bind (M.idx l1 i29) fun x32=>
  M.bind (M.det (Yx c2 x32)) fun v34=>
  cond (!v34)
   (M.bind (M.idx l1 i29) fun x37=>
   M.bind (M.det (uW out28 x37)) fun v39=>
   M.pure v39)
   (M.pure out28)) (fun out31=>
  M.pure (.next ((out31,(IntKind.i64.wrap (i29 + 1)))))))
  (M.pure (.done out28))
def VN (l1:List DT) (c2:List PT):M (List DT):=
 M.bind (M.loop (ZJ l1 c2) (([]:List DT),0)) (fun out3=>
 M.pure out3)

def vo (l1:List EV) (i80:Int):List DT × Int -> M (M.Step (List DT × Int) (List DT)):=fun ⟨out107,k108⟩=>
 M.bind (M.idx l1 i80) fun x109=>
 cond ((decide (k108 < (x109.kills.length:Int))))
  (M.bind (M.idx l1 i80) fun x112=>
  M.bind (M.idx x112.kills k108) fun x114=>
  M.bind (M.det (uW out107 x114)) fun v116=>
  M.pure (.next ((v116,(IntKind.i64.wrap (k108 + 1))))))
  (M.pure (.done out107))
def ZK (l1:List EV):List DT × Int -> M (M.Step (List DT × Int) (List DT)):=fun ⟨out79,i80⟩=>
 cond ((decide (i80 < (l1.length:Int))))
  (M.bind (M.bind (M.idx l1 i80) fun x83=>
  M.bind (M.det (uW out79 x83.dot)) fun v85=>
  M.loop (vo l1 i80) (v85,0)) (fun out82=>
  M.pure (.next ((out82,(IntKind.i64.wrap (i80 + 1)))))))
  (M.pure (.done out79))
def VO (l1:List EV):M (List DT):=
 M.bind (M.loop (ZK l1) (([]:List DT),0)) (fun out2=>
 M.pure out2)

def vp (d1:DL):Int -> M (M.Step Int (M.Ex Unit Bool)):=fun i66=>
 cond ((decide (i66 < (d1.events.length:Int))))
  (M.bind (M.idx d1.events i66) fun x68=>
  M.bind (M.bind (M.det (Xc x68)) fun v71=>
  cond (!v71)
   (M.pure true)
   (cond (decide (0 < i66))
    (M.bind (M.idx d1.events (IntKind.i64.wrap (i66 - 1))) fun x75=>
    M.bind (M.det (uV x75.dot x68.dot)) fun v77=>
    cond (decide (0 <= v77))
     (M.pure true)
     (M.bind (M.det (Yx d1.from_ x68.dot)) fun v80=>
     cond v80
      (M.pure true)
      (cond (decide (x68.kind = 1))
       (M.bind (M.det (Xd d1.events x68.dot)) fun v84=>
       M.pure v84)
       (M.pure false))))
    (M.bind (M.det (Yx d1.from_ x68.dot)) fun v86=>
    cond v86
     (M.pure true)
     (cond (decide (x68.kind = 1))
      (M.bind (M.det (Xd d1.events x68.dot)) fun v90=>
      M.pure v90)
      (M.pure false))))) (fun v70=>
  cond v70
   (M.pure (.done (.ret false)))
   (M.pure (.next (IntKind.i64.wrap (i66 + 1))))))
  (M.pure (.done (.brk ())))
def Xe (d1:DL):M Bool:=
 M.bind (M.bind (M.det (vK d1.from_)) fun v3=>
 cond (!v3)
  (M.pure true)
  (M.bind (M.det (vK d1.to_)) fun v6=>
  cond (!v6)
   (M.pure true)
   (M.bind (M.det (vX d1.from_ d1.to_)) fun v9=>
   cond (!v9)
    (M.pure true)
    (M.pure ((decide (4096 < (d1.events.length:Int)))))))) (fun v2=>
 cond v2
  (M.pure false)
  (M.bind (M.loop (vp d1) 0) (M.exk (fun _=>
  M.bind (M.det (VO d1.events)) fun v93=>
  M.bind (M.det (VN v93 d1.to_)) fun v95=>
  M.pure ((decide ((v95.length:Int) = 0)))))))

def ZL (d1:DL) (dev2:Int):Int -> M (M.Step Int (M.Ex Unit Bool)):=fun i40=>
 cond ((decide (i40 < (d1.events.length:Int))))
  (M.bind (M.bind (M.idx d1.events i40) fun x43=>
  M.bind (M.det (Xc x43)) fun v45=>
  cond (!v45)
   (M.pure true)
   (M.bind (M.idx d1.events i40) fun x48=>
   cond (!decide (x48.dot.dev = dev2))
    (M.pure true)
    (cond (decide (0 < i40))
     (M.bind (M.idx d1.events (IntKind.i64.wrap (i40 - 1))) fun x52=>
     M.bind (M.idx d1.events i40) fun x54=>
     M.bind (M.det (uV x52.dot x54.dot)) fun v56=>
     M.pure (decide (0 <= v56)))
     (M.pure false)))) (fun v42=>
  cond v42
   (M.pure (.done (.ret false)))
   (M.pure (.next (IntKind.i64.wrap (i40 + 1))))))
  (M.pure (.done (.brk ())))
def VP (d1:DL) (dev2:Int):M Bool:=
 M.bind (M.loop (ZL d1 dev2) 0) (M.exk (fun _=>
 M.bind (cond ((decide ((d1.from_.length:Int) = 0)))
  (cond ((decide ((d1.to_.length:Int) = 0)))
   (cond ((decide (1 <= (d1.events.length:Int))))
    (M.pure ((decide ((d1.events.length:Int) <= 4))))
    (M.pure false))
   (M.pure false))
  (M.pure false)) (fun v59=>
 M.pure v59)))

def wV (l2:List EV) (c1:List PT):Int -> M (M.Step Int (M.Ex Unit Bool)):=fun i_16=>
 cond ((decide (i_16 < (l2.length:Int))))
  (M.bind (M.idx l2 i_16) fun x18=>
  M.bind (M.det (Yx c1 x18.dot)) fun v20=>
  cond v20
   (M.pure (.done (.ret true)))
   (M.pure (.next (IntKind.i64.wrap (i_16 + 1)))))
  (M.pure (.done (.brk ())))
def ZM (c1:List PT) (l2:List EV):M Bool:=
 M.bind (M.loop (wV l2 c1) 0) (M.exk (fun _=>
 M.pure false))

def VQ (d1:DL):M Bool:=
 M.bind (cond ((decide ((d1.from_.length:Int) = 0)))
  (cond ((decide ((d1.to_.length:Int) = 0)))
   (M.pure ((decide ((d1.events.length:Int) = 0))))
   (M.pure false))
  (M.pure false)) (fun v2=>
 M.pure v2)

def wW (m1:TMsg):M Bool:=
 M.bind (cond (decide (m1.kind = 1))
  (M.pure true)
  (M.pure (decide (m1.kind = 2)))) (fun hello2=>
 M.bind (cond (decide (m1.kind < 1))
  (M.pure true)
  (cond (decide (9 < m1.kind))
   (M.pure true)
   (cond hello2
    (cond (decide (16 <= m1.slot))
     (M.pure true)
     (M.bind (M.det (vW m1.try_)) fun v9=>
     cond (!v9)
      (M.pure true)
      (cond (!hello2)
       (cond (!decide (m1.slot = 0))
        (M.pure true)
        (M.pure (!decide (m1.try_ = 0))))
       (M.pure false))))
    (cond (!hello2)
     (cond (!decide (m1.slot = 0))
      (M.pure true)
      (M.pure (!decide (m1.try_ = 0))))
     (M.pure false))))) (fun v4=>
 cond v4
  (M.pure false)
  (M.bind (cond (decide (m1.kind = 1))
   (cond (!decide (m1.dev = 0))
    (M.pure true)
    (cond (!decide (m1.epoch = 0))
     (M.pure true)
     (cond (!decide (m1.kind = 1))
      (cond (decide (m1.dev = 0))
       (M.pure true)
       (M.bind (M.det (vW m1.epoch)) fun v23=>
       M.pure (!v23)))
      (M.pure false))))
   (cond (!decide (m1.kind = 1))
    (cond (decide (m1.dev = 0))
     (M.pure true)
     (M.bind (M.det (vW m1.epoch)) fun v27=>
     M.pure (!v27)))
    (M.pure false))) (fun v17=>
  cond v17
   (M.pure false)
   (M.bind (cond (decide (m1.kind = 9))
    (cond (!decide (m1.why = 1))
     (cond (!decide (m1.why = 2))
      (M.pure true)
      (cond (!decide (m1.kind = 9))
       (M.pure (!decide (m1.why = 0)))
       (M.pure false)))
     (cond (!decide (m1.kind = 9))
      (M.pure (!decide (m1.why = 0)))
      (M.pure false)))
    (cond (!decide (m1.kind = 9))
     (M.pure (!decide (m1.why = 0)))
     (M.pure false))) (fun v30=>
   cond v30
    (M.pure false)
    (M.bind (cond (decide (m1.kind = 3))
     (M.pure true)
     (cond (decide (5 <= m1.kind))
      (M.pure (decide (m1.kind <= 7)))
      (M.pure false))) (fun has38=>
    M.bind (cond (!has38)
     (cond ((!decide ((m1.have_.length:Int) = 0)))
      (M.pure true)
      (M.bind (M.det (vK m1.have_)) fun v44=>
      cond (!v44)
       (M.pure true)
       (cond (decide (m1.kind = 5))
        (M.bind (M.det (ZH m1.have_ m1.dev)) fun v48=>
        M.bind (M.det (ZG m1.have_ v48)) fun v50=>
        M.pure (!v50))
        (cond (decide (m1.kind = 6))
         (M.bind (M.det (ZH m1.have_ m1.dev)) fun v53=>
         M.bind (M.det (ZG m1.have_ v53)) fun v55=>
         M.pure (!v55))
         (M.pure false)))))
     (M.bind (M.det (vK m1.have_)) fun v57=>
     cond (!v57)
      (M.pure true)
      (cond (decide (m1.kind = 5))
       (M.bind (M.det (ZH m1.have_ m1.dev)) fun v61=>
       M.bind (M.det (ZG m1.have_ v61)) fun v63=>
       M.pure (!v63))
       (cond (decide (m1.kind = 6))
        (M.bind (M.det (ZH m1.have_ m1.dev)) fun v66=>
        M.bind (M.det (ZG m1.have_ v66)) fun v68=>
        M.pure (!v68))
        (M.pure false))))) (fun v41=>
    cond v41
     (M.pure false)
     (M.bind (cond (!decide (m1.kind = 4))
      (cond ((!decide ((m1.front.length:Int) = 0)))
       (M.pure true)
       (M.bind (M.det (vK m1.front)) fun v74=>
       cond (!v74)
        (M.pure true)
        (M.bind (M.det (vX m1.front m1.delta.to_)) fun v77=>
        cond (!v77)
         (M.pure (decide (m1.kind = 4)))
         (M.pure false))))
      (M.bind (M.det (vK m1.front)) fun v80=>
      cond (!v80)
       (M.pure true)
       (M.bind (M.det (vX m1.front m1.delta.to_)) fun v83=>
       cond (!v83)
        (M.pure (decide (m1.kind = 4)))
        (M.pure false)))) (fun v71=>
     cond v71
      (M.pure false)
      (cond (decide (m1.kind = 2))
       (M.bind (M.bind (M.det (Xe m1.delta)) fun v89=>
       cond v89
        (M.pure ((decide ((m1.delta.from_.length:Int) = 0))))
        (M.pure false)) (fun v88=>
       M.pure v88))
       (cond (decide (m1.kind = 4))
        (M.bind (M.det (Xe m1.delta)) fun v93=>
        M.pure v93)
        (cond (decide (m1.kind = 5))
         (M.bind (M.bind (M.det (VP m1.delta m1.dev)) fun v97=>
         cond v97
          (M.bind (M.det (ZM m1.have_ m1.delta.events)) fun v100=>
          M.pure (!v100))
          (M.pure false)) (fun v96=>
         M.pure v96))
         (M.bind (M.det (VQ m1.delta)) fun v102=>
         M.pure v102)))))))))))))))

def Yy :Int × Int -> M (M.Step (Int × Int) Int):=fun ⟨c12,i13⟩=>
 cond (decide (i13 < 8))
  (M.bind (cond ((decide ((Int.tmod c12 2) = 1)))
   (M.pure ((XO .u32 (IntKind.u32.wrap (Int.tdiv c12 2)) 3988292384)))
   (M.pure (IntKind.u32.wrap (Int.tdiv c12 2)))) (fun c15=>
  M.pure (.next ((c15,(IntKind.i64.wrap (i13 + 1)))))))
  (M.pure (.done c12))
def VR (c1:Int) (x2:Int):M Int:=
 M.bind (M.loop Yy (((XO .u32 c1 (IntKind.u32.wrap x2)),0))) (fun c3=>
 M.pure c3)

def UA (b2:List Int):Int × Int -> M (M.Step (Int × Int) Int):=fun ⟨c16,i17⟩=>
 cond ((decide (i17 < (b2.length:Int))))
  (M.bind (M.idx b2 i17) fun x19=>
  M.bind (M.det (VR c16 x19)) fun v21=>
  M.pure (.next ((v21,(IntKind.i64.wrap (i17 + 1))))))
  (M.pure (.done c16))
def Xf (sum1:Int) (b2:List Int):M Int:=
 M.bind (M.loop (UA b2) ((XO .u32 sum1 4294967295),0)) (fun c3=>
 M.pure (XO .u32 c3 4294967295))

def ZN :Int × Int × List Int -> M (M.Step (Int × Int × List Int) (List Int)):=fun ⟨c14,i15,v16⟩=>
 cond (decide (i15 < 4))
  (M.yY ((v16.length + List.length ([(IntKind.u8.wrap (Int.tmod c14 256))])) * 1 <= 140737488355328) <|
  M.pure (.next (((IntKind.u32.wrap (Int.tdiv c14 256)),(IntKind.i64.wrap (i15 + 1)),(v16 ++ [(IntKind.u8.wrap (Int.tmod c14 256))])))))
  (M.pure (.done v16))
def Xg (kind1:Int) (body2:List Int):M (List Int):=
 M.yY ((List.length ([kind1]) + body2.length) * 1 <= 140737488355328) <|
 M.bind (M.det (Xf 0 ([kind1] ++ body2))) fun v4=>
 M.bind (M.loop ZN (v4,0,([kind1] ++ body2))) (fun v6=>
 M.pure v6)

def Yd :Int × Int -> M (M.Step (Int × Int) Int):=fun ⟨v7,n8⟩=>
 cond (decide (0 < v7))
  (M.pure (.next (((IntKind.u64.wrap (Int.tdiv v7 256)),(IntKind.i64.wrap (n8 + 1))))))
  (M.pure (.done n8))
def jy (v1:Int):M Int:=
 M.bind (M.loop Yd (v1,0)) (fun n2=>
 M.pure n2)

def xx (i2:Int):Int × Int -> M (M.Step (Int × Int) Int):=fun ⟨v11,k12⟩=>
 cond (decide (k12 < i2))
  (M.pure (.next (((IntKind.u64.wrap (Int.tdiv v11 256)),(IntKind.i64.wrap (k12 + 1))))))
  (M.pure (.done v11))
def VS (v1:Int) (i2:Int):M Int:=
 M.bind (cond (decide (i2 < 0))
  (M.pure true)
  (M.pure (decide (7 < i2)))) (fun v3=>
 cond v3
  (M.pure 0)
  (M.bind (M.loop (xx i2) (v1,0)) (fun v6=>
  M.pure (IntKind.u8.wrap (Int.tmod v6 256)))))

def vL (v2:Int):Int × List Int -> M (M.Step (Int × List Int) (List Int)):=fun ⟨i18,v19⟩=>
 cond (decide (0 <= i18))
  (M.bind (M.det (VS v2 i18)) fun v21=>
  M.yY ((v19.length + List.length ([v21])) * 1 <= 140737488355328) <|
  M.pure (.next (((IntKind.i64.wrap (i18 - 1)),(v19 ++ [v21])))))
  (M.pure (.done v19))
def zc (b1:List Int) (v2:Int):M (List Int):=
 M.yY ((List.length ([]:List Int) + b1.length) * 1 <= 140737488355328) <|
 M.bind (M.det (jy v2)) fun v4=>
 M.yY ((List.length (([]:List Int) ++ b1) + List.length ([(IntKind.u8.wrap v4)])) * 1 <= 140737488355328) <|
 M.bind (M.loop (vL v2) (((IntKind.i64.wrap (v4 - 1)),((([]:List Int) ++ b1) ++ [(IntKind.u8.wrap v4)])))) (fun v7=>
 M.pure v7)

def vM (v3:List PT) (i129:Int):List Int × Int -> M (M.Step (List Int × Int) (List Int)):=fun ⟨out172,k173⟩=>
 M.bind (M.idx v3 i129) fun x174=>
 cond ((decide (k173 < (x174.runs.length:Int))))
  (M.bind (M.idx v3 i129) fun x177=>
  M.bind (M.idx x177.runs k173) fun x179=>
  M.bind (M.det (zc out172 x179.lo)) fun v181=>
  M.bind (M.idx v3 i129) fun x183=>
  M.bind (M.idx x183.runs k173) fun x185=>
  M.bind (M.det (zc v181 x185.hi)) fun v187=>
  M.pure (.next ((v187,(IntKind.i64.wrap (k173 + 1))))))
  (M.pure (.done out172))
def vN (v3:List PT):List Int × Int -> M (M.Step (List Int × Int) (List Int)):=fun ⟨out128,i129⟩=>
 cond ((decide (i129 < ((v3.length):Int))))
  (M.bind (M.bind (M.idx v3 i129) fun x132=>
  M.bind (M.det (zc out128 (IntKind.u64.wrap x132.dev))) fun v134=>
  M.bind (M.idx v3 i129) fun x136=>
  M.bind (M.det (zc v134 (IntKind.u64.wrap (x136.runs.length:Int)))) fun v138=>
  M.loop (vM v3 i129) (v138,0)) (fun out131=>
  M.pure (.next ((out131,(IntKind.i64.wrap (i129 + 1)))))))
  (M.pure (.done out128))
def yt (b1:List Int) (c2:List PT):M (List Int):=
 M.bind (M.det (ZF c2)) fun v3=>
 M.bind (M.det (zc b1 ((IntKind.u64.wrap ((v3.length):Int))))) fun v5=>
 M.bind (M.loop (vN v3) (v5,0)) (fun out7=>
 M.pure out7)

def uh (b1:List Int) (d2:DT):M (List Int):=
 M.bind (M.det (zc b1 (IntKind.u64.wrap d2.dev))) fun v3=>
 M.bind (M.det (zc v3 d2.n)) fun v5=>
 M.pure v5

def ZO (s2:ByteArray):Int × List Int -> M (M.Step (Int × List Int) (List Int)):=fun ⟨i_16,v17⟩=>
 cond ((decide (i_16 < (ByteArray.size s2:Int))))
  (M.bind (M.idx (zr s2) i_16) fun b19=>
  M.yY ((v17.length + List.length ([b19])) * 1 <= 140737488355328) <|
  M.pure (.next (((IntKind.i64.wrap (i_16 + 1)),(v17 ++ [b19])))))
  (M.pure (.done v17))
def VT (b1:List Int) (s2:ByteArray):M (List Int):=
 M.bind (M.det (zc b1 (IntKind.u64.wrap (ByteArray.size s2:Int)))) fun v3=>
 M.bind (M.loop (ZO s2) (0,v3)) (fun v5=>
 M.pure v5)

def xJ (l2:List DT):List DT × Int -> M (M.Step (List DT × Int) (List DT)):=fun ⟨some28,i29⟩=>
 cond ((decide (i29 < (l2.length:Int))))
  (M.bind (M.bind (M.idx l2 i29) fun x32=>
  M.bind (M.det (uQ x32)) fun v34=>
  cond v34
   (M.bind (M.idx l2 i29) fun x37=>
   M.bind (M.det (uW some28 x37)) fun v39=>
   M.pure v39)
   (M.pure some28)) (fun some31=>
  M.pure (.next ((some31,(IntKind.i64.wrap (i29 + 1)))))))
  (M.pure (.done some28))
def wY (some3:List DT):List Int × Int -> M (M.Step (List Int × Int) (List Int)):=fun ⟨out56,i57⟩=>
 cond ((decide (i57 < (some3.length:Int))))
  (M.bind (M.idx some3 i57) fun x59=>
  M.bind (M.det (uh out56 x59)) fun v61=>
  M.pure (.next ((v61,(IntKind.i64.wrap (i57 + 1))))))
  (M.pure (.done out56))
def ZP (b1:List Int) (l2:List DT):M (List Int):=
 M.bind (M.loop (xJ l2) (([]:List DT),0)) (fun some3=>
 M.bind (M.det (zc b1 (IntKind.u64.wrap (some3.length:Int)))) fun v41=>
 M.bind (M.loop (wY some3) (v41,0)) (fun out43=>
 M.pure out43))

def jz (b1:List Int) (e2:EV):M (List Int):=
 M.bind (M.det (uh b1 e2.dot)) fun v3=>
 M.yY ((v3.length + List.length ([e2.kind])) * 1 <= 140737488355328) <|
 M.bind (M.det (zc (v3 ++ [e2.kind]) e2.cid)) fun v6=>
 M.yY ((v6.length + List.length ([e2.field])) * 1 <= 140737488355328) <|
 M.bind (M.det (VT (v6 ++ [e2.field]) e2.text)) fun v9=>
 M.bind (M.det (ZP v9 e2.kills)) fun v11=>
 M.pure v11

def vO (l2:List EV):List Int × Int -> M (M.Step (List Int × Int) (List Int)):=fun ⟨out18,i19⟩=>
 cond ((decide (i19 < (l2.length:Int))))
  (M.bind (M.idx l2 i19) fun x21=>
  M.bind (M.det (jz out18 x21)) fun v23=>
  M.pure (.next ((v23,(IntKind.i64.wrap (i19 + 1))))))
  (M.pure (.done out18))
def vY (b1:List Int) (l2:List EV):M (List Int):=
 M.bind (M.det (zc b1 (IntKind.u64.wrap (l2.length:Int)))) fun v3=>
 M.bind (M.loop (vO l2) (v3,0)) (fun out5=>
 M.pure out5)

def wj (b1:List Int) (d2:DL):M (List Int):=
 M.bind (M.det (yt b1 d2.from_)) fun v3=>
 M.bind (M.det (yt v3 d2.to_)) fun v5=>
 M.bind (M.det (vY v5 d2.events)) fun v7=>
 M.pure v7

def VU (m1:TMsg):M (List Int):=
 M.bind (cond (decide (m1.kind <= 2))
  (M.yY ((List.length ([]:List Int) + List.length ([m1.slot])) * 1 <= 140737488355328) <|
  M.bind (M.det (zc (([]:List Int) ++ [m1.slot]) m1.try_)) fun v5=>
  M.pure v5)
  (M.pure ([]:List Int))) (fun v2=>
 M.bind (cond (decide (2 <= m1.kind))
  (M.bind (M.det (zc v2 (IntKind.u64.wrap m1.dev))) fun v9=>
  M.bind (M.det (zc v9 m1.epoch)) fun v11=>
  M.pure v11)
  (M.pure v2)) (fun v7=>
 M.bind (cond (decide (m1.kind = 9))
  (M.yY ((v7.length + List.length ([m1.why])) * 1 <= 140737488355328) <|
  M.pure (v7 ++ [m1.why]))
  (M.pure v7)) (fun v13=>
 M.bind (cond (decide (m1.kind = 3))
  (M.pure true)
  (cond (decide (5 <= m1.kind))
   (M.pure (decide (m1.kind <= 7)))
   (M.pure false))) (fun v16=>
 M.bind (cond v16
  (M.bind (M.det (yt v13 m1.have_)) fun v21=>
  M.pure v21)
  (M.pure v13)) (fun b19=>
 M.bind (cond (decide (m1.kind = 2))
  (M.pure true)
  (M.pure (decide (m1.kind = 4)))) (fun v23=>
 M.bind (cond v23
  (M.bind (M.det (wj b19 m1.delta)) fun v27=>
  M.pure v27)
  (M.pure b19)) (fun b25=>
 M.bind (cond (decide (m1.kind = 5))
  (M.bind (M.det (vY b25 m1.delta.events)) fun v31=>
  M.pure v31)
  (M.pure b25)) (fun b29=>
 M.bind (cond (decide (m1.kind = 4))
  (M.bind (M.det (yt b29 m1.front)) fun v35=>
  M.pure v35)
  (M.pure b29)) (fun b33=>
 M.pure b33)))))))))

def ui (m1:TMsg):M (List Int × Int):=
 M.bind (M.det (wW m1)) fun v2=>
 cond (!v2)
  (M.pure (([]:List Int),1))
  (M.bind (M.det (VU m1)) fun v5=>
  M.bind (M.det (Xg m1.kind v5)) fun v7=>
  M.pure (v7,0))

def xn (m1:TMsg):M Bool:=
 M.bind (M.det (jw m1)) fun v2=>
 cond (!v2)
  (M.bind (M.det (vj)) fun v5=>
  M.pure v5)
  (M.bind (M.det (yQ m1)) fun v7=>
  M.bind (M.det (ui m1)) fun v9=>
  M.bind (M.bind (M.det (vi v7.1 v9.1)) fun v12=>
  cond v12
   (cond (decide (v7.2 = v9.2))
    (M.bind (M.det (vj)) fun v16=>
    M.pure v16)
    (M.pure false))
   (M.pure false)) (fun v11=>
  M.pure v11))
end Go.Ep

namespace Go.Proofs
open Go.Shelf
def Tryz.pdq130_ren : Go.Shelf.Ren:=⟨fun | 14=>130 | 20=>141 | 21=>142 | 22=>143 | 23=>144 | 24=>145 | 25=>146 | 26=>147 | 27=>148 | 46=>169 | 47=>170 | 48=>171 | 49=>172 | 50=>173 | 15=>131 | 57=>181 | 28=>149 | 29=>150 | n=>n,fun | 24=>55 | 22=>24 | 3=>3 | 25=>123 | 4=>4 | 0=>0 | 46=>149 | 45=>148 | 50=>132 | 66=>168 | 39=>99 | 55=>22 | 70=>172 | 76=>179 | 77=>180 | 53=>77 | 5=>5 | 9=>9 | n=>n,fun | n=>n⟩
theorem Tryz.pdq130 : Go.Proofs.SlLaysF0.n14 Tryz.prog Tryz.pdq130_ren:={
 mixed:=by kernel_rfl
 f14:=⟨Tryz.f130.name,by decide,Tryz.func130.trans (congrArg some (by kernel_rfl))⟩
 f15:=Tryz.func131.trans (congrArg some (by kernel_rfl))
 f20:=⟨Tryz.f141.name,by decide,Tryz.func141.trans (congrArg some (by kernel_rfl))⟩
 f21:=⟨Tryz.f142.name,by decide,Tryz.func142.trans (congrArg some (by kernel_rfl))⟩
 f22:=⟨Tryz.f143.name,by decide,Tryz.func143.trans (congrArg some (by kernel_rfl))⟩
 f23:=⟨Tryz.f144.name,by decide,Tryz.func144.trans (congrArg some (by kernel_rfl))⟩
 f24:=⟨Tryz.f145.name,by decide,Tryz.func145.trans (congrArg some (by kernel_rfl))⟩
 f25:=⟨Tryz.f146.name,by decide,Tryz.func146.trans (congrArg some (by kernel_rfl))⟩
 f26:=⟨Tryz.f147.name,by decide,Tryz.func147.trans (congrArg some (by kernel_rfl))⟩
 f27:=⟨Tryz.f148.name,by decide,Tryz.func148.trans (congrArg some (by kernel_rfl))⟩
 f28:=Tryz.func149.trans (congrArg some (by kernel_rfl))
 f29:=Tryz.func150.trans (congrArg some (by kernel_rfl))
 f46:=⟨Tryz.f169.name,by decide,Tryz.func169.trans (congrArg some (by kernel_rfl))⟩
 f47:=Tryz.func170.trans (congrArg some (by kernel_rfl))
 f48:=Tryz.func171.trans (congrArg some (by kernel_rfl))
 f49:=⟨Tryz.f172.name,by decide,Tryz.func172.trans (congrArg some (by kernel_rfl))⟩
 f50:=⟨Tryz.f173.name,by decide,Tryz.func173.trans (congrArg some (by kernel_rfl))⟩
 f57:=⟨Tryz.f181.name,by decide,Tryz.func181.trans (congrArg some (by kernel_rfl))⟩
 t0:=Tryz.underlying0
 a0:=Tryz.isAgg0
 z0:=Tryz.sizeOf0
 v0:=Tryz.zeroValue0
 t3:=Tryz.underlying3
 a3:=Tryz.isAgg3
 z3:=Tryz.sizeOf3
 v3:=Tryz.zeroValue3
 t4:=Tryz.underlying4
 a4:=Tryz.isAgg4
 z4:=Tryz.sizeOf4
 v4:=Tryz.zeroValue4
 t5:=Tryz.underlying5
 a5:=Tryz.isAgg5
 z5:=Tryz.sizeOf5
 v5:=Tryz.zeroValue5
 t9:=Tryz.underlying9
 a9:=Tryz.isAgg9
 z9:=Tryz.sizeOf9
 v9:=Tryz.zeroValue9
 t22:=Tryz.underlying24
 a22:=Tryz.isAgg24
 z22:=Tryz.sizeOf24
 v22:=Tryz.zeroValue24
 t25:=Tryz.underlying123
 a25:=Tryz.isAgg123
 z25:=Tryz.sizeOf123
 v25:=Tryz.zeroValue123
 t39:=Tryz.underlying99
 a39:=Tryz.isAgg99
 z39:=Tryz.sizeOf99
 v39:=Tryz.zeroValue99
 t45:=Tryz.underlying148
 a45:=Tryz.isAgg148
 z45:=Tryz.sizeOf148
 v45:=Tryz.zeroValue148
 t46:=Tryz.underlying149
 a46:=Tryz.isAgg149
 z46:=Tryz.sizeOf149
 v46:=Tryz.zeroValue149
 t50:=Tryz.underlying132
 a50:=Tryz.isAgg132
 z50:=Tryz.sizeOf132
 v50:=Tryz.zeroValue132
 t53:=Tryz.underlying77
 a53:=Tryz.isAgg77
 z53:=Tryz.sizeOf77
 v53:=Tryz.zeroValue77
 t55:=Tryz.underlying22
 a55:=Tryz.isAgg22
 z55:=Tryz.sizeOf22
 v55:=Tryz.zeroValue22
 t66:=Tryz.underlying168
 a66:=Tryz.isAgg168
 z66:=Tryz.sizeOf168
 v66:=Tryz.zeroValue168
 t70:=Tryz.underlying172
 a70:=Tryz.isAgg172
 z70:=Tryz.sizeOf172
 v70:=Tryz.zeroValue172
 t76:=Tryz.underlying179
 a76:=Tryz.isAgg179
 z76:=Tryz.sizeOf179
 v76:=Tryz.zeroValue179
 t77:=Tryz.underlying180
 a77:=Tryz.isAgg180
 z77:=Tryz.sizeOf180
 v77:=Tryz.zeroValue180 }
def Tryz.pdq139_ren : Go.Shelf.Ren:=⟨fun | 14=>139 | 20=>153 | 21=>154 | 22=>155 | 23=>156 | 24=>157 | 25=>158 | 26=>159 | 27=>160 | 46=>175 | 47=>170 | 48=>171 | 49=>176 | 50=>177 | 15=>131 | 57=>182 | 28=>149 | 29=>150 | n=>n,fun | 24=>67 | 22=>68 | 3=>3 | 25=>84 | 4=>4 | 0=>0 | 46=>149 | 45=>148 | 50=>132 | 66=>168 | 39=>99 | 55=>22 | 70=>172 | 76=>179 | 77=>180 | 53=>77 | 5=>5 | 9=>9 | n=>n,fun | n=>n⟩
theorem Tryz.pdq139 : Go.Proofs.SlLaysF0.n14 Tryz.prog Tryz.pdq139_ren:={
 mixed:=by kernel_rfl
 f14:=⟨Tryz.f139.name,by decide,Tryz.func139.trans (congrArg some (by kernel_rfl))⟩
 f15:=Tryz.func131.trans (congrArg some (by kernel_rfl))
 f20:=⟨Tryz.f153.name,by decide,Tryz.func153.trans (congrArg some (by kernel_rfl))⟩
 f21:=⟨Tryz.f154.name,by decide,Tryz.func154.trans (congrArg some (by kernel_rfl))⟩
 f22:=⟨Tryz.f155.name,by decide,Tryz.func155.trans (congrArg some (by kernel_rfl))⟩
 f23:=⟨Tryz.f156.name,by decide,Tryz.func156.trans (congrArg some (by kernel_rfl))⟩
 f24:=⟨Tryz.f157.name,by decide,Tryz.func157.trans (congrArg some (by kernel_rfl))⟩
 f25:=⟨Tryz.f158.name,by decide,Tryz.func158.trans (congrArg some (by kernel_rfl))⟩
 f26:=⟨Tryz.f159.name,by decide,Tryz.func159.trans (congrArg some (by kernel_rfl))⟩
 f27:=⟨Tryz.f160.name,by decide,Tryz.func160.trans (congrArg some (by kernel_rfl))⟩
 f28:=Tryz.func149.trans (congrArg some (by kernel_rfl))
 f29:=Tryz.func150.trans (congrArg some (by kernel_rfl))
 f46:=⟨Tryz.f175.name,by decide,Tryz.func175.trans (congrArg some (by kernel_rfl))⟩
 f47:=Tryz.func170.trans (congrArg some (by kernel_rfl))
 f48:=Tryz.func171.trans (congrArg some (by kernel_rfl))
 f49:=⟨Tryz.f176.name,by decide,Tryz.func176.trans (congrArg some (by kernel_rfl))⟩
 f50:=⟨Tryz.f177.name,by decide,Tryz.func177.trans (congrArg some (by kernel_rfl))⟩
 f57:=⟨Tryz.f182.name,by decide,Tryz.func182.trans (congrArg some (by kernel_rfl))⟩
 t0:=Tryz.underlying0
 a0:=Tryz.isAgg0
 z0:=Tryz.sizeOf0
 v0:=Tryz.zeroValue0
 t3:=Tryz.underlying3
 a3:=Tryz.isAgg3
 z3:=Tryz.sizeOf3
 v3:=Tryz.zeroValue3
 t4:=Tryz.underlying4
 a4:=Tryz.isAgg4
 z4:=Tryz.sizeOf4
 v4:=Tryz.zeroValue4
 t5:=Tryz.underlying5
 a5:=Tryz.isAgg5
 z5:=Tryz.sizeOf5
 v5:=Tryz.zeroValue5
 t9:=Tryz.underlying9
 a9:=Tryz.isAgg9
 z9:=Tryz.sizeOf9
 v9:=Tryz.zeroValue9
 t22:=Tryz.underlying68
 a22:=Tryz.isAgg68
 z22:=Tryz.sizeOf68
 v22:=Tryz.zeroValue68
 t25:=Tryz.underlying84
 a25:=Tryz.isAgg84
 z25:=Tryz.sizeOf84
 v25:=Tryz.zeroValue84
 t39:=Tryz.underlying99
 a39:=Tryz.isAgg99
 z39:=Tryz.sizeOf99
 v39:=Tryz.zeroValue99
 t45:=Tryz.underlying148
 a45:=Tryz.isAgg148
 z45:=Tryz.sizeOf148
 v45:=Tryz.zeroValue148
 t46:=Tryz.underlying149
 a46:=Tryz.isAgg149
 z46:=Tryz.sizeOf149
 v46:=Tryz.zeroValue149
 t50:=Tryz.underlying132
 a50:=Tryz.isAgg132
 z50:=Tryz.sizeOf132
 v50:=Tryz.zeroValue132
 t53:=Tryz.underlying77
 a53:=Tryz.isAgg77
 z53:=Tryz.sizeOf77
 v53:=Tryz.zeroValue77
 t55:=Tryz.underlying22
 a55:=Tryz.isAgg22
 z55:=Tryz.sizeOf22
 v55:=Tryz.zeroValue22
 t66:=Tryz.underlying168
 a66:=Tryz.isAgg168
 z66:=Tryz.sizeOf168
 v66:=Tryz.zeroValue168
 t70:=Tryz.underlying172
 a70:=Tryz.isAgg172
 z70:=Tryz.sizeOf172
 v70:=Tryz.zeroValue172
 t76:=Tryz.underlying179
 a76:=Tryz.isAgg179
 z76:=Tryz.sizeOf179
 v76:=Tryz.zeroValue179
 t77:=Tryz.underlying180
 a77:=Tryz.isAgg180
 z77:=Tryz.sizeOf180
 v77:=Tryz.zeroValue180 }
def Tryz.pdq140_ren : Go.Shelf.Ren:=⟨fun | 14=>140 | 20=>161 | 21=>162 | 22=>163 | 23=>164 | 24=>165 | 25=>166 | 26=>167 | 27=>168 | 46=>178 | 47=>170 | 48=>171 | 49=>179 | 50=>180 | 15=>131 | 57=>183 | 28=>149 | 29=>150 | n=>n,fun | 24=>65 | 22=>53 | 3=>3 | 25=>138 | 4=>4 | 0=>0 | 46=>149 | 45=>148 | 50=>132 | 66=>168 | 39=>99 | 55=>22 | 70=>172 | 76=>179 | 77=>180 | 53=>77 | 5=>5 | 9=>9 | n=>n,fun | n=>n⟩
theorem Tryz.pdq140 : Go.Proofs.SlLaysF0.n14 Tryz.prog Tryz.pdq140_ren:={
 mixed:=by kernel_rfl
 f14:=⟨Tryz.f140.name,by decide,Tryz.func140.trans (congrArg some (by kernel_rfl))⟩
 f15:=Tryz.func131.trans (congrArg some (by kernel_rfl))
 f20:=⟨Tryz.f161.name,by decide,Tryz.func161.trans (congrArg some (by kernel_rfl))⟩
 f21:=⟨Tryz.f162.name,by decide,Tryz.func162.trans (congrArg some (by kernel_rfl))⟩
 f22:=⟨Tryz.f163.name,by decide,Tryz.func163.trans (congrArg some (by kernel_rfl))⟩
 f23:=⟨Tryz.f164.name,by decide,Tryz.func164.trans (congrArg some (by kernel_rfl))⟩
 f24:=⟨Tryz.f165.name,by decide,Tryz.func165.trans (congrArg some (by kernel_rfl))⟩
 f25:=⟨Tryz.f166.name,by decide,Tryz.func166.trans (congrArg some (by kernel_rfl))⟩
 f26:=⟨Tryz.f167.name,by decide,Tryz.func167.trans (congrArg some (by kernel_rfl))⟩
 f27:=⟨Tryz.f168.name,by decide,Tryz.func168.trans (congrArg some (by kernel_rfl))⟩
 f28:=Tryz.func149.trans (congrArg some (by kernel_rfl))
 f29:=Tryz.func150.trans (congrArg some (by kernel_rfl))
 f46:=⟨Tryz.f178.name,by decide,Tryz.func178.trans (congrArg some (by kernel_rfl))⟩
 f47:=Tryz.func170.trans (congrArg some (by kernel_rfl))
 f48:=Tryz.func171.trans (congrArg some (by kernel_rfl))
 f49:=⟨Tryz.f179.name,by decide,Tryz.func179.trans (congrArg some (by kernel_rfl))⟩
 f50:=⟨Tryz.f180.name,by decide,Tryz.func180.trans (congrArg some (by kernel_rfl))⟩
 f57:=⟨Tryz.f183.name,by decide,Tryz.func183.trans (congrArg some (by kernel_rfl))⟩
 t0:=Tryz.underlying0
 a0:=Tryz.isAgg0
 z0:=Tryz.sizeOf0
 v0:=Tryz.zeroValue0
 t3:=Tryz.underlying3
 a3:=Tryz.isAgg3
 z3:=Tryz.sizeOf3
 v3:=Tryz.zeroValue3
 t4:=Tryz.underlying4
 a4:=Tryz.isAgg4
 z4:=Tryz.sizeOf4
 v4:=Tryz.zeroValue4
 t5:=Tryz.underlying5
 a5:=Tryz.isAgg5
 z5:=Tryz.sizeOf5
 v5:=Tryz.zeroValue5
 t9:=Tryz.underlying9
 a9:=Tryz.isAgg9
 z9:=Tryz.sizeOf9
 v9:=Tryz.zeroValue9
 t22:=Tryz.underlying53
 a22:=Tryz.isAgg53
 z22:=Tryz.sizeOf53
 v22:=Tryz.zeroValue53
 t25:=Tryz.underlying138
 a25:=Tryz.isAgg138
 z25:=Tryz.sizeOf138
 v25:=Tryz.zeroValue138
 t39:=Tryz.underlying99
 a39:=Tryz.isAgg99
 z39:=Tryz.sizeOf99
 v39:=Tryz.zeroValue99
 t45:=Tryz.underlying148
 a45:=Tryz.isAgg148
 z45:=Tryz.sizeOf148
 v45:=Tryz.zeroValue148
 t46:=Tryz.underlying149
 a46:=Tryz.isAgg149
 z46:=Tryz.sizeOf149
 v46:=Tryz.zeroValue149
 t50:=Tryz.underlying132
 a50:=Tryz.isAgg132
 z50:=Tryz.sizeOf132
 v50:=Tryz.zeroValue132
 t53:=Tryz.underlying77
 a53:=Tryz.isAgg77
 z53:=Tryz.sizeOf77
 v53:=Tryz.zeroValue77
 t55:=Tryz.underlying22
 a55:=Tryz.isAgg22
 z55:=Tryz.sizeOf22
 v55:=Tryz.zeroValue22
 t66:=Tryz.underlying168
 a66:=Tryz.isAgg168
 z66:=Tryz.sizeOf168
 v66:=Tryz.zeroValue168
 t70:=Tryz.underlying172
 a70:=Tryz.isAgg172
 z70:=Tryz.sizeOf172
 v70:=Tryz.zeroValue172
 t76:=Tryz.underlying179
 a76:=Tryz.isAgg179
 z76:=Tryz.sizeOf179
 v76:=Tryz.zeroValue179
 t77:=Tryz.underlying180
 a77:=Tryz.isAgg180
 z77:=Tryz.sizeOf180
 v77:=Tryz.zeroValue180 }
def Tryz.bits131_ren : Go.Shelf.Ren:=⟨fun | 15=>131 | 28=>149 | 29=>150 | n=>n,fun | 39=>99 | 3=>3 | 53=>77 | 55=>22 | 4=>4 | 5=>5 | 9=>9 | n=>n,fun | n=>n⟩
theorem Tryz.bits131 : Go.Proofs.SlLaysF0.n15 Tryz.prog Tryz.bits131_ren:={
 mixed:=by kernel_rfl
 f15:=Tryz.func131.trans (congrArg some (by kernel_rfl))
 f28:=Tryz.func149.trans (congrArg some (by kernel_rfl))
 f29:=Tryz.func150.trans (congrArg some (by kernel_rfl))
 t3:=Tryz.underlying3
 a3:=Tryz.isAgg3
 z3:=Tryz.sizeOf3
 v3:=Tryz.zeroValue3
 t4:=Tryz.underlying4
 a4:=Tryz.isAgg4
 z4:=Tryz.sizeOf4
 v4:=Tryz.zeroValue4
 t5:=Tryz.underlying5
 a5:=Tryz.isAgg5
 z5:=Tryz.sizeOf5
 v5:=Tryz.zeroValue5
 t9:=Tryz.underlying9
 a9:=Tryz.isAgg9
 z9:=Tryz.sizeOf9
 v9:=Tryz.zeroValue9
 t39:=Tryz.underlying99
 a39:=Tryz.isAgg99
 z39:=Tryz.sizeOf99
 v39:=Tryz.zeroValue99
 t53:=Tryz.underlying77
 a53:=Tryz.isAgg77
 z53:=Tryz.sizeOf77
 v53:=Tryz.zeroValue77
 t55:=Tryz.underlying22
 a55:=Tryz.isAgg22
 z55:=Tryz.sizeOf22
 v55:=Tryz.zeroValue22 }
end Go.Proofs

namespace Go.Ep
open Go.Shelf Go.RowKit Go.Lib Go.Sort Go.Proofs

theorem SortLaw.of {α:Type} [Inhabited α] {P:Program} {f g:FuncId} {k:Nat} {enc:α -> List Value} {lt:α -> α -> Bool} {cf:α -> α -> Int} (hO:SWO (ltOf cf)) (hlt:∀ x y,ltOf cf x y = lt x y) (hk:∀ x,(enc x).length = k)
  (hnil:∀ w:World,Calls P f #[.slice none 0 0,.func (.func g) #[] #[]] w fun e w'=>e = .returned (.tuple #[]) /\ Go.RowKit.Below w.heap.size w w')
  (hrow:∀ (blk off cap:Nat) (d:Array α) (w:World),HoldsK enc k w blk off d -> blk < w.heap.size -> d.size < 4611686018427387904 ->
   Calls P f #[.slice (some ⟨blk,off,none⟩) d.size cap,.func (.func g) #[] #[]] w fun e w'=>e = .returned (.tuple #[]) /\ ∃ n os,w' = sortWorldK enc k w blk off n (pdq (ltOf cf) d 0 d.size (Lib.bitLen d.size) true true) os):SortLaw P f g k enc lt:=by
 refine ⟨hnil,fun w blk cap l T cur hh hlc hcs hlen hcells=>?_⟩;have hblk:blk < w.heap.size:=(Array.getElem?_eq_some_iff.1 hh).1;have hH:HoldsK enc k w blk 0 l.toArray:=by
  intro j hj;rw [size_flatK] at hj;have hj':j < l.length * k:=by simpa using hj
  obtain ⟨hk0,h1,h2,h3⟩:=XH hj'
  constructor
  ·rw [Nat.zero_add,zV hh];show _ = some ((flatK enc k l.toArray)[j]!);rw [get_flatK _ _ _ _ hj];have hx:l[j / k]? = some l[j / k]:=List.getElem?_eq_getElem h1;have hlk:(enc l[j / k]).length = k:=hk _;have hu:(enc l[j / k])[j % k]? = some ((enc l[j / k])[j % k]'(by omega)):=List.getElem?_eq_getElem (by omega);have:=hcells (j / k) _ (j % k) _ hx hu;rw [h3] at this;rw [this];have e1:(l.toArray)[j / k]! = l[j / k]:=by simp [h1]
   rw [e1];simp [hu]
  ·simp [World.frozen?,hh]
 have hd:l.toArray.size = l.length:=by simp
 have hcall:=hrow blk 0 cap l.toArray w hH hblk (by simpa using hlen);rw [hd] at hcall;refine hcall.mono fun e w' ⟨he,n,os,hw⟩=>⟨he,?_⟩
 have hp:=pdq_sorts (ltOf cf) hO l.toArray 0 l.toArray.size (Lib.bitLen l.toArray.size) true true (Nat.zero_le _) (Nat.le_refl _) (Or.inl rfl);rw [hd] at hp
 generalize pdq (ltOf cf) l.toArray 0 l.length (Lib.bitLen l.length) true true = d' at hp hw
 obtain ⟨⟨hsz,_,hperm⟩,hsort⟩:=hp;have hsz':d'.size = l.length:=by simpa using hsz
 have hp':d'.toList.Perm l:=by
  have e1:(d'.extract 0 l.length).toList = d'.toList:=by rw [<- hsz'];simp
  have e2:(l.toArray.extract 0 l.length).toList = l:=by simp
  rw [e1,e2] at hperm;exact hperm
 have hmod:∀ b,b < w.heap.size -> (sortWorldK enc k w blk 0 n d' os).heap[b]? = if blk = b then (w.heap[b]?).map (onCells (putCells id 0 (flatK enc k d'))) else w.heap[b]?:=by
  intro b hb;have hb2:b < (putRowK enc k (Sort.ahead w n) blk 0 d').heap.size:=by simpa [putRowK,Sort.ahead] using hb
  show (grow (putRowK enc k (Sort.ahead w n) blk 0 d') os).heap[b]? = _;rw [Sort.heap_grow_old _ _ hb2];show ((w.heap.modify blk (onCells (putCells id 0 (flatK enc k d')))))[b]? = _;rw [Array.getElem?_modify]
 subst hw;refine ⟨d'.toList,(putCells id 0 (flatK enc k d') cur.toArray).toList,hp',?_,?_,?_,?_,rfl,rfl,rfl,?_,?_⟩
 ·rw [List.pairwise_iff_getElem];intro i j hi hj hij;have:=hsort i j (Nat.zero_le _) hij (by simpa [hsz'] using hj);rw [hlt] at this;have hi':i < d'.size:=by simpa using hi
  have hj':j < d'.size:=by simpa using hj
  simpa [hi',hj'] using this
 ·rw [hmod blk hblk,if_pos rfl,hh];simp [onCells]
 ·simp [putCells]
 ·intro i x j u hi hu;have hi':i < l.length:=by rw [<- hsz'];have:=(List.getElem?_eq_some_iff.1 hi).1;simpa using this
  have hj:j < k:=by rw [<- hk x];exact (List.getElem?_eq_some_iff.1 hu).1
  have hlt2:i * k + j < l.length * k:=Zk hi' hj;have hcl:l.length * k <= cur.length:=by rw [hcs];exact Nat.mul_le_mul_right k hlc
  have hin:i * k + j < d'.size * k:=by rw [hsz'];exact hlt2
  have hget:(flatK enc k d')[i * k + j]! = u:=by
   rw [get_flatK _ _ _ _ hin];have hk0:0 < k:=by omega
   have e1:(i * k + j) / k = i:=by rw [Nat.mul_comm,Nat.mul_add_div hk0,Nat.div_eq_of_lt hj];omega
   have e2:(i * k + j) % k = j:=by rw [Nat.mul_comm,Nat.mul_add_mod,Nat.mod_eq_of_lt hj]
   rw [e1,e2];have e3:d'[i]! = x:=by
    obtain ⟨h1,h2⟩:=List.getElem?_eq_some_iff.1 hi;have h1':i < d'.size:=by simpa using h1
    rw [getElem!_pos d' i h1'];simpa using h2
   rw [e3];simp [hu]
  have hc2:i * k + j < cur.length:=by omega
  simp only [putCells,Array.toList_mapIdx,List.getElem?_mapIdx];rw [List.getElem?_eq_getElem hc2];simp only [Option.map_some,id];rw [if_pos ⟨Nat.zero_le _,by rw [size_flatK];omega⟩,Nat.sub_zero,hget]
 ·show w.heap.size <= (grow (putRowK enc k (Sort.ahead w n) blk 0 d') os).heap.size;simp [grow,putRowK,Sort.ahead]
 ·intro b hb hne;rw [hmod b hb,if_neg (Ne.symm hne)]
end Go.Ep

namespace Go.Proofs
set_option linter.unusedSimpArgs false
set_option linter.unusedVariables false
open Go.Shelf Go.RowKit Go.Lib Go.Sort Go.Ep
theorem xba (a:Int) (W:World):Calls Tryz.prog 120 #[.int .u16 a] W fun e w'=>e = .returned (.bool false) /\ w' = W:=by
 go_enter Tryz.func120,Tryz.ntmps120
 go_wp2
 go_ret
 exact ⟨by simp,rfl⟩
theorem cmpu16 (a b:Int) (W:World):Calls Tryz.prog 92 #[.int .u16 a,.int .u16 b] W fun e w'=>e = .returned (.int .i64 (Lib.compareInt a b)) /\ w' = W:=by
 unfold Lib.compareInt
 by_cases h1:a < b
 ·go_enter Tryz.func92,Tryz.ntmps92
  go_wp2_with (go_at_call 120;refine (xba _ _).mono ?_;rintro e w' ⟨rfl,rfl⟩)
  go_ret
  exact ⟨by simp [h1],rfl⟩
 ·by_cases h2:b < a
  ·go_enter Tryz.func92,Tryz.ntmps92
   go_wp2_with (go_at_call 120;refine (xba _ _).mono ?_;rintro e w' ⟨rfl,rfl⟩)
   go_ret
   exact ⟨by simp [h1,h2],rfl⟩
  ·go_enter Tryz.func92,Tryz.ntmps92
   go_wp2_with (go_at_call 120;refine (xba _ _).mono ?_;rintro e w' ⟨rfl,rfl⟩)
   go_ret
   exact ⟨by simp [h1,h2],rfl⟩
theorem xca (a:Int) (W:World):Calls Tryz.prog 121 #[.int .u64 a] W fun e w'=>e = .returned (.bool false) /\ w' = W:=by
 go_enter Tryz.func121,Tryz.ntmps121
 go_wp2
 go_ret
 exact ⟨by simp,rfl⟩
theorem cmpu64 (a b:Int) (W:World):Calls Tryz.prog 93 #[.int .u64 a,.int .u64 b] W fun e w'=>e = .returned (.int .i64 (Lib.compareInt a b)) /\ w' = W:=by
 unfold Lib.compareInt
 by_cases h1:a < b
 ·go_enter Tryz.func93,Tryz.ntmps93
  go_wp2_with (go_at_call 121;refine (xca _ _).mono ?_;rintro e w' ⟨rfl,rfl⟩)
  go_ret
  exact ⟨by simp [h1],rfl⟩
 ·by_cases h2:b < a
  ·go_enter Tryz.func93,Tryz.ntmps93
   go_wp2_with (go_at_call 121;refine (xca _ _).mono ?_;rintro e w' ⟨rfl,rfl⟩)
   go_ret
   exact ⟨by simp [h1,h2],rfl⟩
  ·go_enter Tryz.func93,Tryz.ntmps93
   go_wp2_with (go_at_call 121;refine (xca _ _).mono ?_;rintro e w' ⟨rfl,rfl⟩)
   go_ret
   exact ⟨by simp [h1,h2],rfl⟩
structure RawTPart where
 dev_:Int
 c1:Value
 h1:c1.oneCell' = true
def RawTPart.v (r:RawTPart):List Value:=[.int .u16 r.dev_,r.c1]
theorem RawTPart.v1 (r:RawTPart):∀ u ∈ r.v,u.oneCell' = true:=by
 intro u hu;simp only [RawTPart.v,List.mem_cons,List.not_mem_nil,or_false] at hu;rcases hu with rfl | rfl
 ·rfl
 ·exact r.h1
def RawTPart.R (x:PT) (r:RawTPart):Prop:=r.dev_ = x.dev
theorem RawTPart.raw (w:World) (S:Nat -> Prop) (x:PT) (us:List Value) (hl:us.length = 2) (h:∀ (j:Nat) (d:DV) (u:Value),(PT.e x)[j]? = some d -> us[j]? = some u -> DRd w S d u):∃ r:RawTPart,r.v = us /\ RawTPart.R x r:=by
 match us,hl with
 | [u0,u1],_=>
  refine ⟨⟨x.dev,u1,(h 1 _ u1 rfl rfl).one⟩,?_,rfl⟩;have e0:=h 0 _ u0 rfl rfl
  cases e0
  rfl
def qK (x y:RawTPart):Int:=Lib.compareInt x.dev_ y.dev_
theorem xda (x y:RawTPart) (W:World):Calls Tryz.prog 101 #[.agg #[.int .u16 x.dev_,x.c1],.agg #[.int .u16 y.dev_,y.c1]] W fun e w'=>e = .returned (.int .i64 (qK x y)) /\ ∃ q os',w' = grow (W.drewN q) os':=by
 have c1:=fun W'=>cmpu16 x.dev_ y.dev_ W'
 unfold qK
 generalize Lib.compareInt x.dev_ y.dev_ = r1 at c1 ⊢
 go_enter Tryz.func101,Tryz.ntmps101
 go_wp2_with (go_at_call 92;refine (c1 _).mono ?_;rintro e w' ⟨rfl,rfl⟩)
 go_ret
 exact ⟨rfl,0,_,by rw [alloc_eq_grow,alloc_eq_grow,grow_grow];rfl⟩
theorem JA (x y:RawTPart):ltOf qK x y = (fun x y:RawTPart=>decide (x.dev_ < y.dev_)) x y:=by
 unfold ltOf qK Lib.compareInt ;rw [Bool.eq_iff_iff];simp only [decide_eq_true_eq,Bool.or_eq_true,Bool.and_eq_true]
 split <;> (repeat' split) <;> omega
theorem zta : SWO (ltOf qK) where
 irrefl x:=by rw [JA];simp []
 trans x y z h1 h2:=by rw [JA] at *;simp [] at *;omega
 ntrans x y z h1 h2:=by rw [JA] at *;simp [] at *;omega
instance inhcf100 : Inhabited RawTPart:=⟨⟨0,.int .u64 0,rfl⟩⟩
theorem xea (blk off size:Nat) (w:World):CmpLays Tryz.prog 101 #[] RawTPart.v 2 qK blk off size w:=fun _ _ _ _ x y=>xda x y _
set_option maxHeartbeats 2000000 in
set_option maxRecDepth 100000 in
theorem yha (blk off cap:Nat) (d:Array RawTPart) (w:World) (hH:HoldsK RawTPart.v 2 w blk off d) (hblk:blk < w.heap.size) (hsz:d.size < 4611686018427387904) :
  Calls Tryz.prog 100 #[.slice (some ⟨blk,off,none⟩) d.size cap,.func (.func 101) #[] #[]] w fun e w'=>e = .returned (.tuple #[]) /\ ∃ n os,w' = sortWorldK RawTPart.v 2 w blk off n (pdq (ltOf qK) d 0 d.size (Lib.bitLen d.size) true true) os:=by
 have eg:∀ args w,(callFunc 101 args).run Tryz.prog w = .ok (.enter 101 args) w:=Tryz.call101;have e14:=Tryz.call130;have e15:=Tryz.call131;have hlim:Lib.bitLen d.size < 4611686018427387904:=Nat.lt_of_le_of_lt (Lib.bitLen_le d.size 62 (by omega) (by omega)) (by omega);have hp:=AnyQ.pdqsortCmpFunc_all Tryz.pdq130 2 Tryz.isAgg55 Tryz.sizeOf55 RawTPart.v qK 101 #[] zta blk off cap d w eg (xea blk off d.size w) ⟨fun _=>rfl,RawTPart.v1,hH,hblk⟩ (d.size + 1) 0 d.size (Lib.bitLen d.size) d w (by omega) rfl (SWK.start hH) (Nat.zero_le _) (Nat.le_refl _) hsz hlim (Or.inl rfl)
 change Calls Tryz.prog 130 _ _ _ at hp
 have hl:Calls Tryz.prog 131 #[.int .u64 (d.size:Int)] w fun e w'=>e = .returned (.int .i64 (Lib.bitLen d.size:Nat)) /\ w' = w:=by
  have h:=Any.bits_Len (SlLaysF0.n15.bits Tryz.bits131) (d.size:Int) w (by omega) (by omega)
  rwa [Int.toNat_natCast] at h
 have wr:IntKind.u64.wrap (d.size:Int) = d.size:=by simp [IntKind.wrap,IntKind.bits,IntKind.signed];omega
 clear hH
 go_enter Tryz.func100,Tryz.ntmps100
 go_wp2_with (first | (go_at_call 131;refine hl.mono ?_;rintro e w' ⟨rfl,rfl⟩) | (go_at_call 130;refine hp.mono ?_;rintro e w' ⟨rfl,n,os,rfl⟩))
 go_end0
 exact ⟨rfl,n,os,rfl⟩
theorem Qe (w:World):Calls Tryz.prog 100 #[.slice none 0 0,.func (.func 101) #[] #[]] w fun e w'=>e = .returned (.tuple #[]) /\ Go.RowKit.Below w.heap.size w w':=by
 have e14:=Tryz.call130;have e15:=Tryz.call131;have hp:=fun lim W=>AnyF.pdqsortCmpFunc_none Tryz.pdq130 none 0 lim (.func (.func 101) #[] #[]) W
 have hl:∀ W,Calls Tryz.prog 131 #[.int .u64 0] W fun e w'=>e = .returned (.int .i64 (Lib.bitLen 0:Nat)) /\ w' = W:=fun W=>by
  have h:=Any.bits_Len (SlLaysF0.n15.bits Tryz.bits131) 0 W (by omega) (by omega);exact h
 go_enter Tryz.func100,Tryz.ntmps100
 go_wp2_with (first | (go_at_call 131;refine (hl _).mono ?_;rintro e w' ⟨rfl,rfl⟩) | (go_at_call 130;refine (hp _ _).mono ?_;rintro e w' ⟨rfl,rfl⟩))
 go_end0
 exact ⟨rfl,Go.RowKit.Below.refl _ _⟩
theorem yia : SortLaw Tryz.prog 100 101 2 RawTPart.v (fun x y:RawTPart=>decide (x.dev_ < y.dev_)):=SortLaw.of zta JA (fun _=>rfl) Qe (fun blk off cap d w hH hblk hsz=>yha blk off cap d w hH hblk hsz)
theorem rlt100 (x y:PT) (r r':RawTPart) (h1:RawTPart.R x r) (h2:RawTPart.R y r'):((fun x y:RawTPart=>decide (x.dev_ < y.dev_))) r r' = jJ x y:=by simp only [RawTPart.R] at h1 h2;simp [h1,h2,jJ]
def qL (x y:DT):Int:=if Lib.compareInt x.dev y.dev ≠ 0 then Lib.compareInt x.dev y.dev else Lib.compareInt x.n y.n
theorem xfa (x y:DT) (W:World):Calls Tryz.prog 54 #[.agg #[.int .u16 x.dev,.int .u64 x.n],.agg #[.int .u16 y.dev,.int .u64 y.n]] W fun e w'=>e = .returned (.int .i64 (qL x y)) /\ ∃ q os',w' = grow (W.drewN q) os':=by
 have c1:=fun W'=>cmpu16 x.dev y.dev W'
 have c2:=fun W'=>cmpu64 x.n y.n W'
 unfold qL
 generalize Lib.compareInt x.dev y.dev = r1 at c1 ⊢
 generalize Lib.compareInt x.n y.n = r2 at c2 ⊢
 by_cases h:r1 = 0
 ·subst h
  go_enter Tryz.func54,Tryz.ntmps54
  go_wp2_with (first | (go_at_call 92;refine (c1 _).mono ?_;rintro e w' ⟨rfl,rfl⟩) | (go_at_call 93;refine (c2 _).mono ?_;rintro e w' ⟨rfl,rfl⟩))
  go_ret
  exact ⟨by simp,0,_,by rw [alloc_eq_grow,alloc_eq_grow,grow_grow];rfl⟩
 ·go_enter Tryz.func54,Tryz.ntmps54
  go_wp2_with (first | (go_at_call 92;refine (c1 _).mono ?_;rintro e w' ⟨rfl,rfl⟩) | (go_at_call 93;refine (c2 _).mono ?_;rintro e w' ⟨rfl,rfl⟩))
  go_ret
  exact ⟨by simp [h],0,_,by rw [alloc_eq_grow,alloc_eq_grow,grow_grow];rfl⟩
theorem JB (x y:DT):ltOf qL x y = zT x y:=by
 unfold ltOf qL Lib.compareInt zT;rw [Bool.eq_iff_iff];simp only [decide_eq_true_eq,Bool.or_eq_true,Bool.and_eq_true]
 split <;> (repeat' split) <;> omega
theorem zua : SWO (ltOf qL) where
 irrefl x:=by rw [JB];simp [zT]
 trans x y z h1 h2:=by rw [JB] at *;simp [zT] at *;omega
 ntrans x y z h1 h2:=by rw [JB] at *;simp [zT] at *;omega
instance inhcf124 : Inhabited DT:=⟨⟨0,0⟩⟩
theorem xga (blk off size:Nat) (w:World):CmpLays Tryz.prog 54 #[] DT.v 2 qL blk off size w:=fun _ _ _ _ x y=>xfa x y _
set_option maxHeartbeats 2000000 in
set_option maxRecDepth 100000 in
theorem yja (blk off cap:Nat) (d:Array DT) (w:World) (hH:HoldsK DT.v 2 w blk off d) (hblk:blk < w.heap.size) (hsz:d.size < 4611686018427387904) :
  Calls Tryz.prog 124 #[.slice (some ⟨blk,off,none⟩) d.size cap,.func (.func 54) #[] #[]] w fun e w'=>e = .returned (.tuple #[]) /\ ∃ n os,w' = sortWorldK DT.v 2 w blk off n (pdq (ltOf qL) d 0 d.size (Lib.bitLen d.size) true true) os:=by
 have eg:∀ args w,(callFunc 54 args).run Tryz.prog w = .ok (.enter 54 args) w:=Tryz.call54;have e14:=Tryz.call139;have e15:=Tryz.call131;have hlim:Lib.bitLen d.size < 4611686018427387904:=Nat.lt_of_le_of_lt (Lib.bitLen_le d.size 62 (by omega) (by omega)) (by omega);have hp:=AnyQ.pdqsortCmpFunc_all Tryz.pdq139 2 Tryz.isAgg67 Tryz.sizeOf67 DT.v qL 54 #[] zua blk off cap d w eg (xga blk off d.size w) ⟨fun _=>rfl,DT.v1,hH,hblk⟩ (d.size + 1) 0 d.size (Lib.bitLen d.size) d w (by omega) rfl (SWK.start hH) (Nat.zero_le _) (Nat.le_refl _) hsz hlim (Or.inl rfl)
 change Calls Tryz.prog 139 _ _ _ at hp
 have hl:Calls Tryz.prog 131 #[.int .u64 (d.size:Int)] w fun e w'=>e = .returned (.int .i64 (Lib.bitLen d.size:Nat)) /\ w' = w:=by
  have h:=Any.bits_Len (SlLaysF0.n15.bits Tryz.bits131) (d.size:Int) w (by omega) (by omega)
  rwa [Int.toNat_natCast] at h
 have wr:IntKind.u64.wrap (d.size:Int) = d.size:=by simp [IntKind.wrap,IntKind.bits,IntKind.signed];omega
 clear hH
 go_enter Tryz.func124,Tryz.ntmps124
 go_wp2_with (first | (go_at_call 131;refine hl.mono ?_;rintro e w' ⟨rfl,rfl⟩) | (go_at_call 139;refine hp.mono ?_;rintro e w' ⟨rfl,n,os,rfl⟩))
 go_end0
 exact ⟨rfl,n,os,rfl⟩
theorem Qf (w:World):Calls Tryz.prog 124 #[.slice none 0 0,.func (.func 54) #[] #[]] w fun e w'=>e = .returned (.tuple #[]) /\ Go.RowKit.Below w.heap.size w w':=by
 have e14:=Tryz.call139;have e15:=Tryz.call131;have hp:=fun lim W=>AnyF.pdqsortCmpFunc_none Tryz.pdq139 none 0 lim (.func (.func 54) #[] #[]) W
 have hl:∀ W,Calls Tryz.prog 131 #[.int .u64 0] W fun e w'=>e = .returned (.int .i64 (Lib.bitLen 0:Nat)) /\ w' = W:=fun W=>by
  have h:=Any.bits_Len (SlLaysF0.n15.bits Tryz.bits131) 0 W (by omega) (by omega);exact h
 go_enter Tryz.func124,Tryz.ntmps124
 go_wp2_with (first | (go_at_call 131;refine (hl _).mono ?_;rintro e w' ⟨rfl,rfl⟩) | (go_at_call 139;refine (hp _ _).mono ?_;rintro e w' ⟨rfl,rfl⟩))
 go_end0
 exact ⟨rfl,Go.RowKit.Below.refl _ _⟩
theorem xha : SortLaw Tryz.prog 124 54 2 DT.v zT:=SortLaw.of zua JB (fun _=>rfl) Qf (fun blk off cap d w hH hblk hsz=>yja blk off cap d w hH hblk hsz)
def qM (x y:RN):Int:=Lib.compareInt x.lo y.lo
theorem xia (x y:RN) (W:World):Calls Tryz.prog 129 #[.agg #[.int .u64 x.lo,.int .u64 x.hi],.agg #[.int .u64 y.lo,.int .u64 y.hi]] W fun e w'=>e = .returned (.int .i64 (qM x y)) /\ ∃ q os',w' = grow (W.drewN q) os':=by
 have c1:=fun W'=>cmpu64 x.lo y.lo W'
 unfold qM
 generalize Lib.compareInt x.lo y.lo = r1 at c1 ⊢
 go_enter Tryz.func129,Tryz.ntmps129
 go_wp2_with (go_at_call 93;refine (c1 _).mono ?_;rintro e w' ⟨rfl,rfl⟩)
 go_ret
 exact ⟨rfl,0,_,by rw [alloc_eq_grow,alloc_eq_grow,grow_grow];rfl⟩
theorem JC (x y:RN):ltOf qM x y = Ur x y:=by
 unfold ltOf qM Lib.compareInt Ur;rw [Bool.eq_iff_iff];simp only [decide_eq_true_eq,Bool.or_eq_true,Bool.and_eq_true]
 split <;> (repeat' split) <;> omega
theorem zva : SWO (ltOf qM) where
 irrefl x:=by rw [JC];simp [Ur]
 trans x y z h1 h2:=by rw [JC] at *;simp [Ur] at *;omega
 ntrans x y z h1 h2:=by rw [JC] at *;simp [Ur] at *;omega
instance inhcf128 : Inhabited RN:=⟨⟨0,0⟩⟩
theorem xja (blk off size:Nat) (w:World):CmpLays Tryz.prog 129 #[] RN.v 2 qM blk off size w:=fun _ _ _ _ x y=>xia x y _
set_option maxHeartbeats 2000000 in
set_option maxRecDepth 100000 in
theorem yka (blk off cap:Nat) (d:Array RN) (w:World) (hH:HoldsK RN.v 2 w blk off d) (hblk:blk < w.heap.size) (hsz:d.size < 4611686018427387904) :
  Calls Tryz.prog 128 #[.slice (some ⟨blk,off,none⟩) d.size cap,.func (.func 129) #[] #[]] w fun e w'=>e = .returned (.tuple #[]) /\ ∃ n os,w' = sortWorldK RN.v 2 w blk off n (pdq (ltOf qM) d 0 d.size (Lib.bitLen d.size) true true) os:=by
 have eg:∀ args w,(callFunc 129 args).run Tryz.prog w = .ok (.enter 129 args) w:=Tryz.call129;have e14:=Tryz.call140;have e15:=Tryz.call131;have hlim:Lib.bitLen d.size < 4611686018427387904:=Nat.lt_of_le_of_lt (Lib.bitLen_le d.size 62 (by omega) (by omega)) (by omega);have hp:=AnyQ.pdqsortCmpFunc_all Tryz.pdq140 2 Tryz.isAgg65 Tryz.sizeOf65 RN.v qM 129 #[] zva blk off cap d w eg (xja blk off d.size w) ⟨fun _=>rfl,RN.v1,hH,hblk⟩ (d.size + 1) 0 d.size (Lib.bitLen d.size) d w (by omega) rfl (SWK.start hH) (Nat.zero_le _) (Nat.le_refl _) hsz hlim (Or.inl rfl)
 change Calls Tryz.prog 140 _ _ _ at hp
 have hl:Calls Tryz.prog 131 #[.int .u64 (d.size:Int)] w fun e w'=>e = .returned (.int .i64 (Lib.bitLen d.size:Nat)) /\ w' = w:=by
  have h:=Any.bits_Len (SlLaysF0.n15.bits Tryz.bits131) (d.size:Int) w (by omega) (by omega)
  rwa [Int.toNat_natCast] at h
 have wr:IntKind.u64.wrap (d.size:Int) = d.size:=by simp [IntKind.wrap,IntKind.bits,IntKind.signed];omega
 clear hH
 go_enter Tryz.func128,Tryz.ntmps128
 go_wp2_with (first | (go_at_call 131;refine hl.mono ?_;rintro e w' ⟨rfl,rfl⟩) | (go_at_call 140;refine hp.mono ?_;rintro e w' ⟨rfl,n,os,rfl⟩))
 go_end0
 exact ⟨rfl,n,os,rfl⟩
theorem Qg (w:World):Calls Tryz.prog 128 #[.slice none 0 0,.func (.func 129) #[] #[]] w fun e w'=>e = .returned (.tuple #[]) /\ Go.RowKit.Below w.heap.size w w':=by
 have e14:=Tryz.call140;have e15:=Tryz.call131;have hp:=fun lim W=>AnyF.pdqsortCmpFunc_none Tryz.pdq140 none 0 lim (.func (.func 129) #[] #[]) W
 have hl:∀ W,Calls Tryz.prog 131 #[.int .u64 0] W fun e w'=>e = .returned (.int .i64 (Lib.bitLen 0:Nat)) /\ w' = W:=fun W=>by
  have h:=Any.bits_Len (SlLaysF0.n15.bits Tryz.bits131) 0 W (by omega) (by omega);exact h
 go_enter Tryz.func128,Tryz.ntmps128
 go_wp2_with (first | (go_at_call 131;refine (hl _).mono ?_;rintro e w' ⟨rfl,rfl⟩) | (go_at_call 140;refine (hp _ _).mono ?_;rintro e w' ⟨rfl,rfl⟩))
 go_end0
 exact ⟨rfl,Go.RowKit.Below.refl _ _⟩
theorem yla : SortLaw Tryz.prog 128 129 2 RN.v Ur:=SortLaw.of zva JC (fun _=>rfl) Qg (fun blk off cap d w hH hblk hsz=>yka blk off cap d w hH hblk hsz)
end Go.Proofs

