/- Side texts. -/
import Derived.Test.YtmjhkhdnbenhfaaGreatDoorProg
import Derived.Shelf.SlGeneric
import Derived.Shelf.SlLaysF0
import Derived.Ground.SlsfProg
import Derived.Shelf.SlSortCmp.WholeK
import Derived.Shelf.SlSortCmp.NoneTotal
import Derived.StillTactics
import Derived.RegionTactic
import Derived.Test.YtmjhkhdnbenhfaaGreatDoorABk2
set_option linter.unusedVariables false
set_option linter.unusedSimpArgs false
namespace Go.Ep
open Go
def tabG : List Int:=[0,16,192,76,32,0,2,3,292,36,4]
def Xm(c1:List PT):Int->M (M.Step Int (M.Ex Unit Bool)):=fun i12=>
 cond ((decide (i12 < (c1.length:Int))))
  (M.bind (M.idx c1 i12) fun x14=>
  cond ((decide (30 < (x14.runs.length:Int))))
   (M.pure (.done (.ret false)))
   (M.pure (.next (IntKind.i64.wrap (i12+1)))))
  (M.pure (.done (.brk ())))
def Yb(c1:List PT):M Bool:=
 cond ((decide (30 < (c1.length:Int))))
  (M.pure false)
  (M.bind (M.loop (Xm c1) 0) (M.exk (fun _=>
  M.pure true)))
def Xn(l1:List EV):Int->M (M.Step Int (M.Ex Unit Bool)):=fun i21=>
 cond ((decide (i21 < (l1.length:Int))))
  (M.bind (M.bind (M.idx l1 i21) fun x24=>
  cond ((decide (300 < (x24.kills.length:Int))))
   (M.pure true)
   (M.bind (M.idx l1 i21) fun x27=>
   M.pure ((decide (200 < (ByteArray.size x27.text:Int)))))) (fun v23=>
  cond v23
   (M.pure (.done (.ret false)))
   (M.pure (.next (IntKind.i64.wrap (i21+1))))))
  (M.pure (.done (.brk ())))
def UG(l1:List EV)(most2:Int):M Bool:=
 cond ((decide (most2 < (l1.length:Int))))
  (M.pure false)
  (M.bind (M.loop (Xn l1) 0) (M.exk (fun _=>
  M.pure true)))
def QT(d1:DL):M Bool:=
 M.bind (M.bind (M.det (Yb d1.from_)) fun v3=>
 cond v3
  (M.bind (M.det (Yb d1.to_)) fun v6=>
  cond v6
   (M.bind (M.det (UG d1.events 30)) fun v9=>
   M.pure v9)
   (M.pure false))
  (M.pure false)) (fun v2=>
 M.pure v2)
def Zm(e1:TEntry):M Bool:=
 M.bind (M.bind (M.det (Yb e1.have_)) fun v3=>
 cond v3
  (M.bind (M.det (Yb e1.front)) fun v6=>
  cond v6
   (M.bind (M.det (QT e1.delta)) fun v9=>
   cond v9
    (M.bind (M.det (UG ([e1.event]) 1)) fun v12=>
    M.pure v12)
    (M.pure false))
   (M.pure false))
  (M.pure false)) (fun v2=>
 M.pure v2)
def QU(s1:TState):M Bool:=
 M.bind (M.bind (M.det (Yb s1.had)) fun v3=>
 cond v3
  (M.bind (M.det (Yb s1.ctx)) fun v6=>
  cond v6
   (M.bind (M.det (UG s1.all 30)) fun v9=>
   M.pure v9)
   (M.pure false))
  (M.pure false)) (fun v2=>
 M.pure v2)
def zb(kind1:Int)(f2:Int):M Bool:=
 M.bind (cond (decide (kind1<=10))
  (M.xg ((0:Int)<=kind1/\kind1 < ((11:Nat):Int)) <|
  M.pure ((!decide (((bAnd .i64 (tabG.getD (Int.toNat kind1) 0) f2))=0))))
  (M.pure false)) (fun v3=>
 M.pure v3)
def vJ(is1:Bool)(n2:Int):M Bool:=
 cond (!is1)
  (M.pure (decide (n2=0)))
  (M.bind (cond (decide (0 < n2))
   (M.pure (decide (n2<=281474976710655)))
   (M.pure false)) (fun v4=>
  M.pure v4))
def Zn(d1:DT):M Bool:=
 M.bind (cond (decide (0 < d1.dev))
  (cond (decide (0 < d1.n))
   (M.pure (decide (d1.n<=281474976710655)))
   (M.pure false))
  (M.pure false)) (fun v2=>
 M.pure v2)
def Yc(v1:Int):M (Int×Int):=
 M.pure (((IntKind.u16.wrap (Int.fdiv v1 (2 ^ 48))),(bAnd .u64 v1 281474976710655)))
def Xo(v1:Int):M (DT×Bool):=
 M.bind (M.det (Yc v1)) fun v2=>
 M.bind (M.det (Zn (⟨v2.1,v2.2⟩:DT))) fun v4=>
 cond (!v4)
  (M.pure ((⟨0,0⟩:DT),false))
  (M.pure ((⟨v2.1,v2.2⟩:DT),true))
def Xp(f1:Int):M Bool:=
 M.bind (cond (decide (1<=f1))
  (M.pure (decide (f1<=5)))
  (M.pure false)) (fun v2=>
 M.pure v2)
def vP(s1:ByteArray):Int->M (M.Step Int (M.Ex Unit Bool)):=fun v20=>
 cond ((decide (v20 < (ByteArray.size s1:Int))))
  (M.bind (M.bind (M.idx (yI s1) v20) fun b23=>
  cond (decide (b23 < 32))
   (M.pure true)
   (M.bind (M.idx (yI s1) v20) fun b26=>
   M.pure (decide (126 < b26)))) (fun v22=>
  cond v22
   (M.pure (.done (.ret false)))
   (M.pure (.next (IntKind.i64.wrap (v20+1))))))
  (M.pure (.done (.brk ())))
def Xq(s1:ByteArray):M Bool:=
 cond ((decide (60 < (ByteArray.size s1:Int))))
  (M.pure false)
  (M.bind (M.loop (vP s1) 0) (M.exk (fun _=>
  M.pure true)))
def wi(x1:Int):M Bool:=
 M.pure (!decide (x1=x1))
def xj(x1:Int)(y2:Int):M Int:=
 M.bind (M.det (wi x1)) fun v3=>
 M.bind (M.det (wi y2)) fun v5=>
 cond v3
  (cond v5
   (M.pure 0)
   (M.pure (-1)))
  (cond v5
   (M.pure 1)
   (cond (decide (x1 < y2))
    (M.pure (-1))
    (cond (decide (y2 < x1))
     (M.pure 1)
     (M.pure 0))))
def wj(x1:Int):M Bool:=
 M.pure (!decide (x1=x1))
def yp(x1:Int)(y2:Int):M Int:=
 M.bind (M.det (wj x1)) fun v3=>
 M.bind (M.det (wj y2)) fun v5=>
 cond v3
  (cond v5
   (M.pure 0)
   (M.pure (-1)))
  (cond v5
   (M.pure 1)
   (cond (decide (x1 < y2))
    (M.pure (-1))
    (cond (decide (y2 < x1))
     (M.pure 1)
     (M.pure 0))))
def wP(a1:DT)(b2:DT):M Int:=
 M.bind (M.det (xj a1.dev b2.dev)) fun v3=>
 cond (!decide (v3=0))
  (M.pure v3)
  (M.bind (M.det (yp a1.n b2.n)) fun v6=>
  M.pure v6)
def yq(l1:List DT):Int->M (M.Step Int (M.Ex Unit Bool)):=fun v23=>
 cond ((decide (v23 < (l1.length:Int))))
  (M.bind (cond (decide (0 < v23))
   (M.bind (M.idx l1 (IntKind.i64.wrap (v23 - 1))) fun x27=>
   M.bind (M.idx l1 v23) fun x29=>
   M.bind (M.det (wP x27 x29)) fun v31=>
   M.pure (decide (0<=v31)))
   (M.pure false)) (fun v25=>
  cond v25
   (M.pure (.done (.ret false)))
   (M.pure (.next (IntKind.i64.wrap (v23+1))))))
  (M.pure (.done (.brk ())))
def Xr(l1:List DT):M Bool:=
 M.bind (M.loop (yq l1) 0) (M.exk (fun _=>
 M.pure true))
def vQ(e1:EV):Int->M (M.Step Int (M.Ex Unit Bool)):=fun v43=>
 cond ((decide (v43 < (e1.kills.length:Int))))
  (M.bind (M.idx e1.kills v43) fun x45=>
  M.bind (M.bind (M.det (Zn x45)) fun v48=>
  cond (!v48)
   (M.pure true)
   (M.pure (((decide (x45.dev=e1.dot.dev)&&decide (x45.n=e1.dot.n)))))) (fun v47=>
  cond v47
   (M.pure (.done (.ret false)))
   (M.pure (.next (IntKind.i64.wrap (v43+1))))))
  (M.pure (.done (.brk ())))
def xx(e1:EV):M Bool:=
 M.bind (M.det (Xo e1.cid)) fun v2=>
 M.bind (cond (!v2.2)
  (M.pure true)
  (M.bind (M.det (Zn e1.dot)) fun v6=>
  M.pure (!v6))) (fun v4=>
 cond v4
  (M.pure false)
  (M.bind (cond (decide (e1.kind=1))
   (M.bind (M.bind (M.det (Xp e1.field)) fun v11=>
   cond (!v11)
    (M.pure true)
    (M.bind (M.det (Xq e1.text)) fun v14=>
    M.pure (!v14))) (fun v10=>
   cond v10
    (M.pure (.ret false))
    (M.pure (.brk ()))))
   (cond (decide (e1.kind=2))
    (M.bind (cond (!decide (e1.field=0))
     (M.pure true)
     (M.pure ((!decide (e1.text=(⟨#[]⟩:ByteArray)))))) (fun v18=>
    cond v18
     (M.pure (.ret false))
     (M.pure (.brk ()))))
    (M.pure (.ret false)))) (M.exk (fun _=>
  M.bind (cond ((decide (256 < (e1.kills.length:Int))))
   (M.pure true)
   (M.bind (M.det (Xr e1.kills)) fun v23=>
   M.pure (!v23))) (fun v21=>
  cond v21
   (M.pure false)
   (M.bind (M.loop (vQ e1) 0) (M.exk (fun _=>
   M.pure true))))))))
def Zf(s1_1:List DT)(s2_2:List DT):Int->M (M.Step Int (M.Ex Unit Bool)):=fun v17=>
 cond ((decide (v17 < (s1_1.length:Int))))
  (M.bind (M.idx s1_1 v17) fun x19=>
  M.bind (M.idx s2_2 v17) fun x21=>
  cond ((!(decide (x19.dev=x21.dev)&&decide (x19.n=x21.n))))
   (M.pure (.done (.ret false)))
   (M.pure (.next (IntKind.i64.wrap (v17+1)))))
  (M.pure (.done (.brk ())))
def yZ(s1_1:List DT)(s2_2:List DT):M Bool:=
 cond ((!decide ((s1_1.length:Int)=(s2_2.length:Int))))
  (M.pure false)
  (M.bind (M.loop (Zf s1_1 s2_2) 0) (M.exk (fun _=>
  M.pure true)))
def jB(a1:List DT)(b2:List DT):M Bool:=
 M.bind (M.det (yZ a1 b2)) fun v3=>
 M.pure v3
def YH(a1:EV)(b2:EV):M Bool:=
 M.bind (cond (((decide (a1.dot.dev=b2.dot.dev)&&decide (a1.dot.n=b2.dot.n))))
  (cond (decide (a1.kind=b2.kind))
   (cond (decide (a1.cid=b2.cid))
    (cond (decide (a1.field=b2.field))
     (cond (decide (a1.text=b2.text))
      (M.bind (M.det (jB a1.kills b2.kills)) fun v9=>
      M.pure v9)
      (M.pure false))
     (M.pure false))
    (M.pure false))
   (M.pure false))
  (M.pure false)) (fun v3=>
 M.pure v3)
def uC(l1:List RN):Int×List RN->M (M.Step (Int×List RN) (List RN)):=fun⟨v23,some24⟩=>
 cond ((decide (v23 < (l1.length:Int))))
  (M.bind (M.bind (M.idx l1 v23) fun x27=>
  M.bind (cond (decide (0 < x27.lo))
   (cond (decide (x27.lo<=x27.hi))
    (M.pure (decide (x27.hi<=281474976710655)))
    (M.pure false))
   (M.pure false)) (fun v29=>
  cond v29
   (M.xg ((some24.length+List.length ([x27]))*16<=140737488355328) <|
   M.pure (some24++[x27]))
   (M.pure some24))) (fun some26=>
  M.pure (.next (((IntKind.i64.wrap (v23+1)),some26)))))
  (M.pure (.done some24))
def uD(some2:List RN)(s34:List RN):Int×List RN->M (M.Step (Int×List RN) (List RN)):=fun⟨v69,out70⟩=>
 cond ((decide (v69 < ((some2.length):Int))))
  (M.bind (M.bind (M.idx s34 v69) fun x73=>
  M.bind (cond ((decide (0<=((IntKind.i64.wrap (((out70.length):Int) - 1))))))
   (M.bind (M.idx out70 ((IntKind.i64.wrap (((out70.length):Int) - 1)))) fun x77=>
   M.pure ((decide (x73.lo<=(IntKind.u64.wrap (x77.hi+1))))))
   (M.pure false)) (fun v75=>
  cond v75
   (M.bind (M.idx out70 ((IntKind.i64.wrap (((out70.length):Int) - 1)))) fun x80=>
   M.bind (M.idx out70 ((IntKind.i64.wrap (((out70.length):Int) - 1)))) fun x82=>
   M.pure ((List.set out70 ((Int.toNat ((IntKind.i64.wrap (((out70.length):Int) - 1))))) (⟨x82.lo,(max x80.hi x73.hi)⟩:RN))))
   (M.xg ((out70.length+List.length ([x73]))*16<=140737488355328) <|
   M.pure (out70++[x73])))) (fun out72=>
  M.pure (.next (((IntKind.i64.wrap (v69+1)),out72)))))
  (M.pure (.done out70))
def xr(l1:List RN):M (List RN):=
 M.bind (M.loop (uC l1) (0,([]:List RN))) (fun some2=>
 M.xg (some2.length < 4611686018427387904)<|M.bind (M.srt qJ some2) fun s34=>
 M.bind (M.loop (uD some2 s34) (0,([]:List RN))) (fun out38=>
 M.pure out38))
def Zo(m1:List (Int×List RN)):List Nat×List PT->M (M.Step (List Nat×List PT) (List PT)):=fun⟨seen28,c29⟩=>
 M.xg (∀ i∈seen28,i < m1.length)<|M.bind (M.nxt (m1.length) seen28) fun o=>match o with
 | none=>
  M.pure (.done c29)
 | some j30=>
  M.bind (M.idx m1 (Int.ofNat j30)) fun kv34=>
  M.bind (M.det (xr kv34.2)) fun v36=>
  cond ((decide (0 < ((v36.length):Int))))
   (M.xg ((c29.length+List.length ([(⟨kv34.1,v36⟩:PT)]))*32<=140737488355328) <|
   M.pure (.next (((seen28++[j30]),(c29++[(⟨kv34.1,v36⟩:PT)])))))
   (M.pure (.next ((seen28++[j30]),c29)))
def ZD(m1:List (Int×List RN)):M (List PT):=
 M.bind (M.loop (Zo m1) ([],([]:List PT))) (fun c3=>
 M.xg (c3.length < 4611686018427387904)<|M.bind (M.srt qc c3) fun s41=>
 M.pure s41)
def zr(p:PT):Option (Int×List RN):=if 0 < p.dev then some (p.dev,p.runs) else none
def Yd(c1:List PT):M (List (Int×List RN)):=
 M.xg (AL.growOK 16 (c1.length) (List.filterMap zr c1)) <|
 M.pure ((AL.grow ([]:List (Int×List RN)) (List.filterMap zr c1)))
def Ye(c1:List PT):M (List PT):=
 M.bind (M.det (Yd c1)) fun v2=>
 M.bind (M.det (ZD v2)) fun v5=>
 M.pure v5
def Zg(s1_1:List RN)(s2_2:List RN):Int->M (M.Step Int (M.Ex Unit Bool)):=fun v17=>
 cond ((decide (v17 < (s1_1.length:Int))))
  (M.bind (M.idx s1_1 v17) fun x19=>
  M.bind (M.idx s2_2 v17) fun x21=>
  cond ((!(decide (x19.lo=x21.lo)&&decide (x19.hi=x21.hi))))
   (M.pure (.done (.ret false)))
   (M.pure (.next (IntKind.i64.wrap (v17+1)))))
  (M.pure (.done (.brk ())))
def ya(s1_1:List RN)(s2_2:List RN):M Bool:=
 cond ((!decide ((s1_1.length:Int)=(s2_2.length:Int))))
  (M.pure false)
  (M.bind (M.loop (Zg s1_1 s2_2) 0) (M.exk (fun _=>
  M.pure true)))
def jw(x1:PT)(y2:PT):M Bool:=
 M.bind (cond (decide (x1.dev=y2.dev))
  (M.bind (M.det (ya x1.runs y2.runs)) fun v5=>
  M.pure v5)
  (M.pure false)) (fun v3=>
 M.pure v3)
def zW(s1_1:List PT)(s2_2:List PT):Int->M (M.Step Int (M.Ex Unit Bool)):=fun v21=>
 cond ((decide (v21 < (s1_1.length:Int))))
  (M.bind (M.idx s1_1 v21) fun x23=>
  M.bind (M.idx s2_2 v21) fun x25=>
  M.bind (M.det (jw x23 x25)) fun v27=>
  cond (!v27)
   (M.pure (.done (.ret false)))
   (M.pure (.next (IntKind.i64.wrap (v21+1)))))
  (M.pure (.done (.brk ())))
def zZ(s1_1:List PT)(s2_2:List PT):M Bool:=
 cond ((!decide ((s1_1.length:Int)=(s2_2.length:Int))))
  (M.pure false)
  (M.bind (M.loop (zW s1_1 s2_2) 0) (M.exk (fun _=>
  M.pure true)))
def wKa(a1:List PT)(b2:List PT):M Bool:=
 M.bind (M.det (zZ a1 b2)) fun v3=>
 M.pure v3
def xl(c1:List PT):M Bool:=
 M.bind (M.det (Ye c1)) fun v2=>
 M.bind (M.det (wKa c1 v2)) fun v4=>
 M.pure v4
def Zp :List RN×List RN×List RN->M (M.Step (List RN×List RN×List RN) (List RN)):=fun⟨a53,b54,out55⟩=>
 M.bind (cond ((decide (0 < (a53.length:Int))))
  (M.pure ((decide (0 < (b54.length:Int)))))
  (M.pure false)) (fun v56=>
 cond v56
  (M.bind (M.idx a53 0) fun x59=>
  M.bind (M.idx b54 0) fun x61=>
  M.bind (M.idx a53 0) fun x63=>
  M.bind (M.idx b54 0) fun x65=>
  M.bind (cond ((decide ((max x59.lo x61.lo)<=(min x63.hi x65.hi))))
   (M.xg ((out55.length+List.length ([(⟨(max x59.lo x61.lo),(min x63.hi x65.hi)⟩:RN)]))*16<=140737488355328) <|
   M.pure ((out55++[(⟨(max x59.lo x61.lo),(min x63.hi x65.hi)⟩:RN)])))
   (M.pure out55)) (fun out67=>
  M.bind (M.idx a53 0) fun x70=>
  M.bind (M.idx b54 0) fun x72=>
  cond (decide (x70.hi < x72.hi))
   (M.xg ((0:Int)<=1/\(1:Int)<=(a53.length:Int)/\(a53.length:Int)<=(a53.length:Int)) <|
   M.pure (.next (((List.drop (Int.toNat 1) (List.take (Int.toNat (a53.length:Int)) a53)),b54,out67))))
   (M.xg ((0:Int)<=1/\(1:Int)<=(b54.length:Int)/\(b54.length:Int)<=(b54.length:Int)) <|
   M.pure (.next ((a53,(List.drop (Int.toNat 1) (List.take (Int.toNat (b54.length:Int)) b54)),out67))))))
  (M.pure (.done out55)))
def VH(a1:List RN)(b2:List RN):M (List RN):=
 M.bind (M.det (xr a1)) fun v3=>
 M.bind (M.det (xr b2)) fun v5=>
 M.bind (M.loop Zp (v3,v5,([]:List RN))) (fun out7=>
 M.pure out7)
def Zq(v2:List RN):Int×Int×List RN->M (M.Step (Int×Int×List RN) (Int×List RN)):=fun⟨at17,v18,out19⟩=>
 cond ((decide (v18 < ((v2.length):Int))))
  (M.bind (M.idx v2 v18) fun x21=>
  M.xg ((out19.length+List.length ([(⟨at17,(IntKind.u64.wrap (x21.lo - 1))⟩:RN)]))*16<=140737488355328) <|
  M.pure (.next (((IntKind.u64.wrap (x21.hi+1)),(IntKind.i64.wrap (v18+1)),(out19++[(⟨at17,(IntKind.u64.wrap (x21.lo - 1))⟩:RN)])))))
  (M.pure (.done (at17,out19)))
def VI(l1:List RN):M (List RN):=
 M.bind (M.det (xr l1)) fun v2=>
 M.bind (M.loop (Zq v2) (1,0,([]:List RN))) (fun⟨at4,out5⟩=>
 M.xg ((out5.length+List.length ([(⟨at4,281474976710655⟩:RN)]))*16<=140737488355328) <|
 M.pure (out5++[(⟨at4,281474976710655⟩:RN)]))
def YI(a1:List RN)(b2:List RN):M (List RN):=
 M.bind (M.det (VI b2)) fun v3=>
 M.bind (M.det (VH a1 v3)) fun v5=>
 M.pure v5
def vb(v6:List (Int×List RN)):List Nat×(List (Int×List RN))->M (M.Step (List Nat×(List (Int×List RN))) (List (Int×List RN))):=fun⟨seen32,v33⟩=>
 M.xg (∀ i∈seen32,i < v33.length)<|M.bind (M.nxt (v33.length) seen32) fun o=>match o with
 | none=>
  M.pure (.done v33)
 | some j34=>
  M.bind (M.idx v33 (Int.ofNat j34)) fun kv38=>
  M.bind (M.det (YI kv38.2 (AL.getZ v6 kv38.1 ([]:List RN)))) fun v40=>
  M.xg (AL.has v33 kv38.1=true) <|
  M.pure (.next ((seen32++[j34]),(AL.set v33 kv38.1 v40)))
def vC(a1:List PT)(b2:List PT):M (List PT):=
 M.bind (M.det (Yd a1)) fun v3=>
 M.bind (M.det (Yd b2)) fun v6=>
 M.bind (M.loop (vb v6) ([],v3)) (fun v9=>
 M.bind (M.det (ZD v9)) fun v44=>
 M.pure v44)
def VJ(a1:List PT)(b2:List PT):M (List PT):=
 M.bind (M.det (vC a1 b2)) fun v3=>
 M.pure v3
def Xs(a1:List PT)(b2:List PT):M Bool:=
 M.bind (M.det (VJ a1 b2)) fun v3=>
 M.pure ((decide (((v3.length):Int)=0)))
def ZE(x1:RN)(n2:Int):M Int:=
 M.bind (M.det (yp x1.hi n2)) fun v3=>
 M.pure v3
def zY(x1:List RN)(target2:Int):Int×Int->M (M.Step (Int×Int) Int):=fun⟨i18,j19⟩=>
 cond (decide (i18 < j19))
  (M.bind (M.idx x1 ((IntKind.i64.wrap ((Int.fdiv ((IntKind.u64.wrap (IntKind.i64.wrap (i18+j19)))) (2 ^ 1)))))) fun x21=>
  M.bind (M.det (ZE x21 target2)) fun v23=>
  cond (decide (v23 < 0))
   (M.pure (.next (((IntKind.i64.wrap (((IntKind.i64.wrap ((Int.fdiv ((IntKind.u64.wrap (IntKind.i64.wrap (i18+j19)))) (2 ^ 1)))))+1)),j19))))
   (M.pure (.next ((i18,(IntKind.i64.wrap ((Int.fdiv ((IntKind.u64.wrap (IntKind.i64.wrap (i18+j19)))) (2 ^ 1)))))))))
  (M.pure (.done i18))
def zS(x1:List RN)(target2:Int):M (Int×Bool):=
 M.bind (M.loop (zY x1 target2) (0,(x1.length:Int))) (fun i3=>
 M.bind (cond ((decide (i3 < (x1.length:Int))))
  (M.bind (M.idx x1 i3) fun x28=>
  M.bind (M.det (ZE x28 target2)) fun v30=>
  M.pure (decide (v30=0)))
  (M.pure false)) (fun v26=>
 M.pure (i3,v26)))
def jC(l1:List RN)(n2:Int):M Bool:=
 M.bind (M.det (xr l1)) fun v3=>
 M.bind (M.det (zS v3 n2)) fun v5=>
 M.bind (cond ((decide (v5.1 < (v3.length:Int))))
  (M.bind (M.idx v3 v5.1) fun x9=>
  M.pure (decide (x9.lo<=n2)))
  (M.pure false)) (fun v7=>
 M.pure v7)
def jD(c1:List PT)(dev2:Int):M (List RN):=
 M.bind (M.det (Yd c1)) fun v3=>
 M.bind (M.det (xr (AL.getZ v3 dev2 ([]:List RN)))) fun v6=>
 M.pure v6
def UH(c1:List PT)(d2:DT):M Bool:=
 M.bind (cond (decide (0 < d2.dev))
  (M.bind (M.det (jD c1 d2.dev)) fun v5=>
  M.bind (M.det (jC v5 d2.n)) fun v7=>
  M.pure v7)
  (M.pure false)) (fun v3=>
 M.pure v3)
def yN(s1:List DT)(v2:DT):Int->M (M.Step Int (M.Ex Unit Int)):=fun v12=>
 cond ((decide (v12 < (s1.length:Int))))
  (M.bind (M.idx s1 v12) fun x14=>
  cond (((decide (v2.dev=x14.dev)&&decide (v2.n=x14.n))))
   (M.pure (.done (.ret v12)))
   (M.pure (.next (IntKind.i64.wrap (v12+1)))))
  (M.pure (.done (.brk ())))
def xM(s1:List DT)(v2:DT):M Int:=
 M.bind (M.loop (yN s1 v2) 0) (M.exk (fun _=>
 M.pure (-1)))
def yl(s1:List DT)(v2:DT):M Bool:=
 M.bind (M.det (xM s1 v2)) fun v3=>
 M.pure (decide (0<=v3))
def QV(l1:List DT)(d2:DT):M Bool:=
 M.bind (M.det (yl l1 d2)) fun v3=>
 M.pure v3
def Wp(e1:EV)(d2:DT):M Bool:=
 M.bind (M.det (QV e1.kills d2)) fun v3=>
 M.pure v3
def uY(l1:List EV)(d2:DT):Int->M (M.Step Int (M.Ex Unit Bool)):=fun v16=>
 cond ((decide (v16 < (l1.length:Int))))
  (M.bind (M.idx l1 v16) fun x18=>
  M.bind (M.det (Wp x18 d2)) fun v20=>
  cond v20
   (M.pure (.done (.ret true)))
   (M.pure (.next (IntKind.i64.wrap (v16+1)))))
  (M.pure (.done (.brk ())))
def vK(l1:List EV)(d2:DT):M Bool:=
 M.bind (M.loop (uY l1 d2) 0) (M.exk (fun _=>
 M.pure false))
def yL(s1:List DT):M (List DT):=
 M.bind (M.isNil s1) fun b2=>
 cond b2
  (M.pure ([]:List DT))
  (M.xg ((List.length ([]:List DT)+s1.length)*16<=140737488355328) <|
  M.pure (([]:List DT)++s1))
def zj(row1:List DT)(k148:Int):Int×Int×List DT->M (M.Step (Int×Int×List DT) (Int×List DT)):=fun⟨k197,k2_198,v199⟩=>
 cond ((decide (k2_198 < ((((row1.length - Int.toNat k148):Nat):Int)))))
  (M.bind (M.xg ((0:Int)<=k2_198/\k2_198 < (((row1.length - Int.toNat k148):Nat):Int))<|M.bind (M.idx v199 ((((Int.toNat k148)+Int.toNat k2_198):Nat):Int)) fun x203=>
  M.xg ((0:Int)<=(IntKind.i64.wrap (k2_198 - 1))/\(IntKind.i64.wrap (k2_198 - 1)) < (((row1.length - Int.toNat k148):Nat):Int))<|M.bind (M.idx v199 ((((Int.toNat k148)+Int.toNat (IntKind.i64.wrap (k2_198 - 1))):Nat):Int)) fun x207=>
  cond ((!(decide (x203.dev=x207.dev)&&decide (x203.n=x207.n))))
   (M.xg ((0:Int)<=k2_198/\k2_198 < (((row1.length - Int.toNat k148):Nat):Int))<|M.bind (M.idx v199 ((((Int.toNat k148)+Int.toNat k2_198):Nat):Int)) fun x212=>
   M.bind (M.idx v199 k197) fun x216=>
   M.pure (((IntKind.i64.wrap (k197+1)),(List.set v199 (Int.toNat k197) x212))))
   (M.pure (k197,v199))) (fun⟨k201,v202⟩=>
  M.pure (.next ((k201,(IntKind.i64.wrap (k2_198+1)),v202)))))
  (M.pure (.done (k197,v199)))
def zk(row1:List DT):Int->M (M.Step Int (M.Ex Unit (List DT))):=fun k148=>
 cond ((decide (k148 < ((row1.length):Int))))
  (M.bind (M.bind (M.idx row1 k148) fun x150=>
  M.bind (M.idx row1 (IntKind.i64.wrap (k148 - 1))) fun x152=>
  cond (((decide (x150.dev=x152.dev)&&decide (x150.n=x152.n))))
   (M.xg ((0:Int)<=k148/\k148<=(row1.length:Int)) <|
   M.bind (M.loop (zj row1 k148) (k148,1,row1)) (fun⟨k156,v157⟩=>
   M.xg ((0:Int)<=k156/\k156<=(v157.length:Int)) <|
   M.xg ((Int.toNat k156)+(v157.length - Int.toNat k156)<=v157.length) <|
   M.xg ((0:Int)<=0/\(0:Int)<=k156/\k156<=(List.length ((List.take (Int.toNat k156) v157++List.replicate (v157.length - Int.toNat k156) (⟨0,0⟩:DT)++List.drop ((Int.toNat k156)+(v157.length - Int.toNat k156)) v157)):Int)) <|
   M.pure (.ret ((.done ((.ret (((List.take (Int.toNat k156) ((List.take (Int.toNat k156) v157++List.replicate (v157.length - Int.toNat k156) (⟨0,0⟩:DT)++List.drop ((Int.toNat k156)+(v157.length - Int.toNat k156)) v157))))))))))))
   (M.pure (.brk ()))) (M.exk (fun _=>
  M.pure (.next (IntKind.i64.wrap (k148+1))))))
  (M.pure (.done (.brk ())))
def zt(row1:List DT):M (List DT):=
 cond ((decide (((row1.length):Int) < 2)))
  (M.pure row1)
  (M.bind (M.loop (zk row1) 1) (M.exk (fun _=>
  M.pure row1)))
def Xt(l1:List DT):M (List DT):=
 M.bind (M.det (yL l1)) fun v2=>
 M.xg (v2.length < 4611686018427387904)<|M.bind (M.srt zd v2) fun s4=>
 M.bind (M.det (zt s4)) fun y8=>
 M.pure y8
def uZ(l1:List DT)(c2:List PT)(has3:Bool):Int×List DT->M (M.Step (Int×List DT) (List DT)):=fun⟨v23,out24⟩=>
 cond ((decide (v23 < (l1.length:Int))))
  (M.bind (M.bind (M.idx l1 v23) fun x27=>
  M.bind (M.det (UH c2 x27)) fun v29=>
  cond (v29==has3)
   (M.xg ((out24.length+List.length ([x27]))*16<=140737488355328) <|
   M.pure (out24++[x27]))
   (M.pure out24)) (fun out26=>
  M.pure (.next (((IntKind.i64.wrap (v23+1)),out26)))))
  (M.pure (.done out24))
def UI(l1:List DT)(c2:List PT)(has3:Bool):M (List DT):=
 M.bind (M.loop (uZ l1 c2 has3) (0,([]:List DT))) (fun out4=>
 M.bind (M.det (Xt out4)) fun v33=>
 M.pure v33)
def YJ(l1:List DT)(c2:List PT):M (List DT):=
 M.bind (M.det (UI l1 c2 false)) fun v3=>
 M.pure v3
def ua(l1:List EV):Int×List DT->M (M.Step (Int×List DT) (List DT)):=fun⟨v15,out16⟩=>
 cond ((decide (v15 < (l1.length:Int))))
  (M.bind (M.idx l1 v15) fun x18=>
  M.xg ((out16.length+List.length ([x18.dot]))*16<=140737488355328) <|
  M.xg ((List.length (out16++[x18.dot])+x18.kills.length)*16<=140737488355328) <|
  M.pure (.next (((IntKind.i64.wrap (v15+1)),((out16++[x18.dot])++x18.kills)))))
  (M.pure (.done out16))
def YK(l1:List EV):M (List DT):=
 M.bind (M.loop (ua l1) (0,([]:List DT))) (fun out2=>
 M.bind (M.det (Xt out2)) fun v22=>
 M.pure v22)
def vR(d1:DL):Int->M (M.Step Int (M.Ex Unit Bool)):=fun v58=>
 cond ((decide (v58 < (d1.events.length:Int))))
  (M.bind (M.idx d1.events v58) fun x60=>
  M.bind (M.bind (M.det (xx x60)) fun v63=>
  cond (!v63)
   (M.pure true)
   (M.bind (M.det (UH d1.from_ x60.dot)) fun v66=>
   M.pure v66)) (fun v62=>
  cond v62
   (M.pure (.done (.ret false)))
   (M.bind (cond (decide (0 < v58))
    (M.bind (M.idx d1.events (IntKind.i64.wrap (v58 - 1))) fun x71=>
    M.bind (M.det (wP x71.dot x60.dot)) fun v73=>
    M.pure (decide (0<=v73)))
    (M.pure false)) (fun v69=>
   cond v69
    (M.pure (.done (.ret false)))
    (M.bind (cond (decide (x60.kind=1))
     (M.bind (M.det (vK d1.events x60.dot)) fun v78=>
     M.pure v78)
     (M.pure false)) (fun v76=>
    cond v76
     (M.pure (.done (.ret false)))
     (M.pure (.next (IntKind.i64.wrap (v58+1))))))))))
  (M.pure (.done (.brk ())))
def uo(d1:DL):M Bool:=
 M.bind (M.bind (M.det (xl d1.from_)) fun v3=>
 cond (!v3)
  (M.pure true)
  (M.bind (M.det (xl d1.to_)) fun v6=>
  cond (!v6)
   (M.pure true)
   (M.bind (M.det (Xs d1.from_ d1.to_)) fun v9=>
   cond (!v9)
    (M.pure true)
    (M.pure ((decide (4096 < (d1.events.length:Int)))))))) (fun v2=>
 cond v2
  (M.pure false)
  (M.bind (M.loop (vR d1) 0) (M.exk (fun _=>
  M.bind (M.det (YK d1.events)) fun v81=>
  M.bind (M.det (YJ v81 d1.to_)) fun v83=>
  M.pure ((decide ((v83.length:Int)=0)))))))
def vS(l1:List EV):Int->M (M.Step Int (M.Ex Unit Bool)):=fun v29=>
 cond ((decide (v29 < (l1.length:Int))))
  (M.bind (M.idx l1 v29) fun x31=>
  M.bind (M.bind (M.det (xx x31)) fun v34=>
  cond (!v34)
   (M.pure true)
   (cond (decide (0 < v29))
    (M.bind (M.idx l1 (IntKind.i64.wrap (v29 - 1))) fun x38=>
    M.bind (M.det (wP x38.dot x31.dot)) fun v40=>
    M.pure (decide (0<=v40)))
    (M.pure false))) (fun v33=>
  cond v33
   (M.pure (.done (.ret false)))
   (M.pure (.next (IntKind.i64.wrap (v29+1))))))
  (M.pure (.done (.brk ())))
def Zr(l1:List EV):M Bool:=
 M.bind (M.loop (vS l1) 0) (M.exk (fun _=>
 M.bind (cond ((decide (0 < (l1.length:Int))))
  (M.pure ((decide ((l1.length:Int)<=4))))
  (M.pure false)) (fun v43=>
 M.pure v43)))
def Xu(kind1:Int)(d2:DL):M Bool:=
 M.bind (M.det (zb kind1 64)) fun v3=>
 cond v3
  (M.bind (M.det (uo d2)) fun v6=>
  M.pure v6)
  (cond ((decide (0 < ((IntKind.i64.wrap ((d2.from_.length:Int)+(d2.to_.length:Int)))))))
   (M.pure false)
   (M.bind (M.det (zb kind1 256)) fun v9=>
   cond v9
    (M.bind (M.det (Zr d2.events)) fun v12=>
    M.pure v12)
    (M.pure ((decide ((d2.events.length:Int)=0))))))
def up(e1:TEntry):M Bool:=
 M.bind (cond (decide (e1.kind=0))
  (M.pure true)
  (cond (decide (10 < e1.kind))
   (M.pure true)
   (cond (decide (16<=e1.slot))
    (M.pure true)
    (M.bind (M.det (zb e1.kind 1)) fun v6=>
    cond (!v6)
     (M.pure (decide (0 < e1.slot)))
     (M.pure false))))) (fun v2=>
 cond v2
  (M.pure false)
  (M.bind (M.bind (M.det (zb e1.kind 2)) fun v11=>
  M.bind (M.det (vJ v11 e1.try_)) fun v13=>
  cond (!v13)
   (M.pure true)
   (M.bind (M.det (zb e1.kind 4)) fun v16=>
   M.bind (M.det (vJ v16 (IntKind.u64.wrap e1.dev))) fun v18=>
   cond (!v18)
    (M.pure true)
    (M.bind (M.det (zb e1.kind 8)) fun v21=>
    M.bind (M.det (vJ v21 e1.epoch)) fun v23=>
    M.pure (!v23)))) (fun v10=>
  cond v10
   (M.pure false)
   (M.bind (M.bind (M.det (zb e1.kind 16)) fun v27=>
   cond v27
    (M.bind (M.det (xx e1.event)) fun v30=>
    cond (!v30)
     (M.pure true)
     (M.bind (M.det (zb e1.kind 16)) fun v33=>
     cond (!v33)
      (M.bind (M.det (YH e1.event (⟨(⟨0,0⟩:DT),0,0,0,(⟨#[]⟩:ByteArray),([]:List DT)⟩:EV))) fun v36=>
      M.pure (!v36))
      (M.pure false)))
    (M.bind (M.det (zb e1.kind 16)) fun v38=>
    cond (!v38)
     (M.bind (M.det (YH e1.event (⟨(⟨0,0⟩:DT),0,0,0,(⟨#[]⟩:ByteArray),([]:List DT)⟩:EV))) fun v41=>
     M.pure (!v41))
     (M.pure false))) (fun v26=>
   cond v26
    (M.pure false)
    (M.bind (M.bind (M.det (zb e1.kind 32)) fun v45=>
    cond (!v45)
     (cond ((decide (0 < (e1.have_.length:Int))))
      (M.pure true)
      (M.bind (M.det (zb e1.kind 128)) fun v49=>
      cond (!v49)
       (M.pure ((decide (0 < (e1.front.length:Int)))))
       (M.pure false)))
     (M.bind (M.det (zb e1.kind 128)) fun v52=>
     cond (!v52)
      (M.pure ((decide (0 < (e1.front.length:Int)))))
      (M.pure false))) (fun v44=>
    cond v44
     (M.pure false)
     (M.bind (M.bind (M.det (xl e1.have_)) fun v57=>
     cond v57
      (M.bind (M.det (xl e1.front)) fun v60=>
      cond v60
       (M.bind (M.det (Xu e1.kind e1.delta)) fun v63=>
       M.pure v63)
       (M.pure false))
      (M.pure false)) (fun v56=>
     M.pure v56)))))))))
def Zs :Int×Int->M (M.Step (Int×Int) Int):=fun⟨v7,n8⟩=>
 cond (decide (0 < v7))
  (M.pure (.next (((Int.fdiv v7 (2 ^ 8)),(IntKind.i64.wrap (n8+1))))))
  (M.pure (.done n8))
def VK(v1:Int):M Int:=
 M.bind (M.loop Zs (v1,0)) (fun n2=>
 M.pure n2)
def Xv(v1:Int)(i2:Int):M Int:=
 cond ((decide (7 < (IntKind.u64.wrap i2))))
  (M.pure 0)
  (M.xg ((0:Int)<=((IntKind.u64.wrap (8*(IntKind.u64.wrap i2))))) <|
  M.pure ((IntKind.u8.wrap ((Int.fdiv v1 (2 ^ (min (Int.toNat ((IntKind.u64.wrap (8*(IntKind.u64.wrap i2))))) 64)))))))
def ub(v2:Int):Int×List Int->M (M.Step (Int×List Int) (List Int)):=fun⟨i19,v20⟩=>
 cond (decide (0<=i19))
  (M.bind (M.det (Xv v2 i19)) fun v22=>
  M.xg ((v20.length+List.length ([v22]))*1<=140737488355328) <|
  M.pure (.next (((IntKind.i64.wrap (i19 - 1)),(v20++[v22])))))
  (M.pure (.done v20))
def Xw(b1:List Int)(v2:Int):M (List Int):=
 M.bind (M.det (VK v2)) fun v3=>
 M.xg ((0:Int)<=((IntKind.i64.wrap (((IntKind.i64.wrap ((b1.length:Int)+v3)))+1)))/\((IntKind.i64.wrap (((IntKind.i64.wrap ((b1.length:Int)+v3)))+1)))*1<=140737488355328) <|
 M.xg ((List.length ([]:List Int)+b1.length)*1<=140737488355328) <|
 M.xg ((List.length (([]:List Int)++b1)+List.length ([(IntKind.u8.wrap v3)]))*1<=140737488355328) <|
 M.bind (M.loop (ub v2) (((IntKind.i64.wrap (v3 - 1)),((([]:List Int)++b1)++[(IntKind.u8.wrap v3)])))) (fun v8=>
 M.pure v8)
def yd(b1:List Int)(row2:List Int):M (List Int):=
 M.xg ((row2.length+b1.length)*1<=140737488355328) <|
 M.pure (row2++b1)
def zn(c1:Int)(row2:List Int):M (List Int):=
 M.bind (M.det (yd ([c1]) row2)) fun y3=>
 M.pure y3
def zP(v1:Int)(row2:List Int):M (List Int):=
 M.bind (M.det (Xw ([]:List Int) v1)) fun v3=>
 M.bind (M.det (yd v3 row2)) fun y5=>
 M.pure y5
def wb(d1:DT)(row2:List Int):M (List Int):=
 M.bind (M.det (zP (IntKind.u64.wrap d1.dev) row2)) fun y3=>
 M.bind (M.det (zP d1.n y3)) fun y5=>
 M.pure y5
def xm(s1:ByteArray)(row2:List Int):M (List Int):=
 M.bind (M.det (zP (IntKind.u64.wrap (ByteArray.size s1:Int)) row2)) fun y3=>
 M.xg (ByteArray.size s1<=9223372036854775807) <|
 M.bind (M.det (yd (yI s1) y3)) fun y6=>
 M.pure y6
def yr(l1:List DT):Int×List DT->M (M.Step (Int×List DT) (List DT)):=fun⟨v22,some23⟩=>
 cond ((decide (v22 < (l1.length:Int))))
  (M.bind (M.bind (M.idx l1 v22) fun x26=>
  M.bind (M.det (Zn x26)) fun v28=>
  cond v28
   (M.xg ((some23.length+List.length ([x26]))*16<=140737488355328) <|
   M.pure (some23++[x26]))
   (M.pure some23)) (fun some25=>
  M.pure (.next (((IntKind.i64.wrap (v22+1)),some25)))))
  (M.pure (.done some23))
def xn(v32:List DT):Int×List Int->M (M.Step (Int×List Int) (List Int)):=fun⟨v48,v49⟩=>
 cond ((decide (v48 < ((v32.length):Int))))
  (M.bind (M.idx v32 v48) fun x51=>
  M.bind (M.det (wb x51 v49)) fun y53=>
  M.pure (.next (((IntKind.i64.wrap (v48+1)),y53))))
  (M.pure (.done v49))
def vT(l1:List DT)(row2:List Int):M (List Int):=
 M.bind (M.loop (yr l1) (0,([]:List DT))) (fun some3=>
 M.bind (M.det (Xt some3)) fun v32=>
 M.bind (M.det (zP ((IntKind.u64.wrap ((v32.length):Int))) row2)) fun y34=>
 M.loop (xn v32) (0,y34))
def ZF(e1:EV)(row2:List Int):M (List Int):=
 M.bind (M.det (wb e1.dot row2)) fun y3=>
 M.bind (M.det (zn e1.kind y3)) fun y5=>
 M.bind (M.det (zP e1.cid y5)) fun y7=>
 M.bind (M.det (zn e1.field y7)) fun y9=>
 M.bind (M.det (xm e1.text y9)) fun y11=>
 M.bind (M.det (vT e1.kills y11)) fun y13=>
 M.pure y13
def xy(x79:PT):Int×List Int->M (M.Step (Int×List Int) (List Int)):=fun⟨v101,v102⟩=>
 cond ((decide (v101 < (x79.runs.length:Int))))
  (M.bind (M.idx x79.runs v101) fun x104=>
  M.bind (M.det (zP x104.lo v102)) fun y106=>
  M.bind (M.det (zP x104.hi y106)) fun y108=>
  M.pure (.next (((IntKind.i64.wrap (v101+1)),y108))))
  (M.pure (.done v102))
def xz(v3:List PT):Int×List Int->M (M.Step (Int×List Int) (List Int)):=fun⟨v75,v76⟩=>
 cond ((decide (v75 < ((v3.length):Int))))
  (M.bind (M.bind (M.idx v3 v75) fun x79=>
  M.bind (M.det (zP (IntKind.u64.wrap x79.dev) v76)) fun y81=>
  M.bind (M.det (zP (IntKind.u64.wrap (x79.runs.length:Int)) y81)) fun y83=>
  M.loop (xy x79) (0,y83)) (fun v78=>
  M.pure (.next (((IntKind.i64.wrap (v75+1)),v78)))))
  (M.pure (.done v76))
def yK(c1:List PT)(row2:List Int):M (List Int):=
 M.bind (M.det (Ye c1)) fun v3=>
 M.bind (M.det (zP ((IntKind.u64.wrap ((v3.length):Int))) row2)) fun y5=>
 M.loop (xz v3) (0,y5)
def wA(l1:List EV):Int×List Int->M (M.Step (Int×List Int) (List Int)):=fun⟨v17,v18⟩=>
 cond ((decide (v17 < (l1.length:Int))))
  (M.bind (M.idx l1 v17) fun x20=>
  M.bind (M.det (ZF x20 v18)) fun y22=>
  M.pure (.next (((IntKind.i64.wrap (v17+1)),y22))))
  (M.pure (.done v18))
def yx(l1:List EV)(row2:List Int):M (List Int):=
 M.bind (M.det (zP (IntKind.u64.wrap (l1.length:Int)) row2)) fun y3=>
 M.loop (wA l1) (0,y3)
def wk(d1:DL)(row2:List Int):M (List Int):=
 M.bind (M.det (yK d1.from_ row2)) fun y3=>
 M.bind (M.det (yK d1.to_ y3)) fun y5=>
 M.bind (M.det (yx d1.events y5)) fun y7=>
 M.pure y7
def yj(row1:List Int):M (List Int×List Int):=
 M.xg (row1.length*1<=140737488355328) <|
 M.pure (row1,row1)
def xt(e1:TEntry):Int×List Int->M (M.Step (Int×List Int) (List Int)):=fun⟨v34,v35⟩=>
 cond ((decide (v34 < ((List.length ([(⟨2,e1.try_⟩:TAnon66),(⟨4,(IntKind.u64.wrap e1.dev)⟩:TAnon66),(⟨8,e1.epoch⟩:TAnon66)]):Int)))))
  (M.bind (M.bind (M.idx ([(⟨2,e1.try_⟩:TAnon66),(⟨4,(IntKind.u64.wrap e1.dev)⟩:TAnon66),(⟨8,e1.epoch⟩:TAnon66)]) v34) fun x38=>
  M.bind (M.det (zb e1.kind x38.f)) fun v40=>
  cond v40
   (M.bind (M.det (zP x38.n v35)) fun y43=>
   M.pure y43)
   (M.pure v35)) (fun v37=>
  M.pure (.next (((IntKind.i64.wrap (v34+1)),v37)))))
  (M.pure (.done v35))
def yb(e1:TEntry):M (List Int×Int):=
 M.bind (M.det (up e1)) fun v2=>
 cond (!v2)
  (M.pure (([]:List Int),1))
  (M.bind (M.det (zn e1.kind ([]:List Int))) fun y5=>
  M.bind (M.det (zb e1.kind 1)) fun v7=>
  M.bind (cond v7
   (M.bind (M.det (zn e1.slot y5)) fun y11=>
   M.pure y11)
   (M.pure y5)) (fun v9=>
  M.bind (M.loop (xt e1) (0,v9)) (fun v13=>
  M.bind (M.det (zb e1.kind 16)) fun v45=>
  M.bind (cond v45
   (M.bind (M.det (ZF e1.event v13)) fun y49=>
   M.pure y49)
   (M.pure v13)) (fun v47=>
  M.bind (M.det (zb e1.kind 32)) fun v51=>
  M.bind (cond v51
   (M.bind (M.det (yK e1.have_ v47)) fun y55=>
   M.pure y55)
   (M.pure v47)) (fun v53=>
  M.bind (M.det (zb e1.kind 64)) fun v57=>
  M.bind (cond v57
   (M.bind (M.det (wk e1.delta v53)) fun y61=>
   M.pure y61)
   (M.pure v53)) (fun v59=>
  M.bind (M.det (zb e1.kind 256)) fun v63=>
  M.bind (cond v63
   (M.bind (M.det (yx e1.delta.events v59)) fun y67=>
   M.pure y67)
   (M.pure v59)) (fun v65=>
  M.bind (M.det (zb e1.kind 128)) fun v69=>
  M.bind (cond v69
   (M.bind (M.det (yK e1.front v65)) fun y73=>
   M.pure y73)
   (M.pure v65)) (fun v71=>
  M.bind (M.det (yj v71)) fun y75=>
  M.pure (y75.1,0)))))))))
def XX(a1:List Int)(b2:List Int):M Bool:=
 M.pure ((decide ((z4a a1)=(z4a b2))))
def XY :M Bool:=
 M.bind (M.det (yb ((⟨5,0,0,0,0,(⟨(⟨0,0⟩:DT),0,0,0,(⟨#[]⟩:ByteArray),([]:List DT)⟩:EV),([]:List PT),([]:List PT),(⟨([]:List PT),([]:List PT),([]:List EV)⟩:DL)⟩:TEntry)))) fun v1=>
 M.bind (M.det (yb ((⟨10,0,1,0,0,(⟨(⟨0,0⟩:DT),0,0,0,(⟨#[]⟩:ByteArray),([]:List DT)⟩:EV),([]:List PT),([]:List PT),(⟨([]:List PT),([]:List PT),([]:List EV)⟩:DL)⟩:TEntry)))) fun v3=>
 M.bind (cond (decide (v1.2=0))
  (cond (decide (v3.2=0))
   (M.bind (M.det (XX v1.1 ([5]))) fun v8=>
   cond v8
    (M.bind (M.det (XX v3.1 ([10,1,1]))) fun v11=>
    M.pure v11)
    (M.pure false))
   (M.pure false))
  (M.pure false)) (fun v5=>
 M.pure v5)
def yQ(kind1:Int)(f2:Int):M Bool:=
 cond (decide (kind1=1))
  (M.pure (decide (f2=5)))
  (cond (decide (kind1=2))
   (M.bind (cond (decide (f2=7))
    (M.pure true)
    (M.pure (decide (f2=8)))) (fun v5=>
   M.pure v5))
   (cond (decide (kind1=3))
    (M.bind (cond (decide (f2=3))
     (M.pure true)
     (cond (decide (f2=4))
      (M.pure true)
      (M.pure (decide (f2=7))))) (fun v8=>
    M.pure v8))
    (cond (decide (kind1=4))
     (M.pure (decide (f2=6)))
     (cond (decide (kind1=6))
      (M.pure (decide (f2=2)))
      (cond (decide (kind1=7))
       (M.bind (cond (decide (f2=1))
        (M.pure true)
        (M.pure (decide (f2=2)))) (fun v14=>
       M.pure v14))
       (cond (decide (kind1=8))
        (M.bind (cond (decide (f2=3))
         (M.pure true)
         (cond (decide (f2=6))
          (M.pure true)
          (M.pure (decide (f2=9))))) (fun v17=>
        M.pure v17))
        (cond (decide (kind1=9))
         (M.bind (cond (decide (f2=3))
          (M.pure true)
          (M.pure (decide (f2=6)))) (fun v21=>
         M.pure v21))
         (cond (decide (kind1=10))
          (M.pure (decide (f2=3)))
          (M.pure false)))))))))
def vL(n1:Int):M Bool:=
 M.bind (cond (decide (1<=n1))
  (M.pure (decide (n1<=281474976710655)))
  (M.pure false)) (fun v2=>
 M.pure v2)
def Yf(d1:DT):M Bool:=
 M.bind (cond (decide (1<=d1.dev))
  (cond (decide (1<=d1.n))
   (M.pure (decide (d1.n < 281474976710656)))
   (M.pure false))
  (M.pure false)) (fun v2=>
 M.pure v2)
def VL(v1:Int):M (Int×Int):=
 M.pure (((IntKind.u16.wrap (IntKind.u64.wrap (Int.tdiv v1 281474976710656))),(Int.tmod v1 281474976710656)))
def Xx(v1:Int):M (DT×Bool):=
 M.bind (M.det (VL v1)) fun v2=>
 M.bind (M.det (Yf (⟨v2.1,v2.2⟩:DT))) fun v4=>
 cond (!v4)
  (M.pure ((⟨0,0⟩:DT),false))
  (M.pure ((⟨v2.1,v2.2⟩:DT),true))
def jE(f1:Int):M Bool:=
 M.bind (cond (decide (1<=f1))
  (M.pure (decide (f1<=5)))
  (M.pure false)) (fun v2=>
 M.pure v2)
def ZG(s1:ByteArray):Int->M (M.Step Int (M.Ex Unit Bool)):=fun i19=>
 cond ((decide (i19 < (ByteArray.size s1:Int))))
  (M.bind (M.bind (M.idx (yI s1) i19) fun b22=>
  cond (decide (b22 < 32))
   (M.pure true)
   (M.bind (M.idx (yI s1) i19) fun b25=>
   M.pure (decide (126 < b25)))) (fun v21=>
  cond v21
   (M.pure (.done (.ret false)))
   (M.pure (.next (IntKind.i64.wrap (i19+1))))))
  (M.pure (.done (.brk ())))
def jF(s1:ByteArray):M Bool:=
 M.bind (M.loop (ZG s1) 0) (M.exk (fun _=>
 M.pure ((decide ((ByteArray.size s1:Int)<=60)))))
def uN(a1:DT)(b2:DT):M Int:=
 cond (((decide (a1.dev=b2.dev)&&decide (a1.n=b2.n))))
  (M.pure 0)
  (M.bind (cond (decide (a1.dev < b2.dev))
   (M.pure true)
   (cond (decide (a1.dev=b2.dev))
    (M.pure (decide (a1.n < b2.n)))
    (M.pure false))) (fun v4=>
  cond v4
   (M.pure (-1))
   (M.pure 1)))
def wG(l1:List DT):Int->M (M.Step Int (M.Ex Unit Bool)):=fun i19=>
 cond ((decide (i19 < (l1.length:Int))))
  (M.bind (M.idx l1 (IntKind.i64.wrap (i19 - 1))) fun x21=>
  M.bind (M.idx l1 i19) fun x23=>
  M.bind (M.det (uN x21 x23)) fun v25=>
  cond (decide (0<=v25))
   (M.pure (.done (.ret false)))
   (M.pure (.next (IntKind.i64.wrap (i19+1)))))
  (M.pure (.done (.brk ())))
def Xy(l1:List DT):M Bool:=
 M.bind (M.loop (wG l1) 1) (M.exk (fun _=>
 M.pure true))
def Xz(l1:List DT)(d2:DT):Int->M (M.Step Int (M.Ex Unit Bool)):=fun i12=>
 cond ((decide (i12 < (l1.length:Int))))
  (M.bind (M.idx l1 i12) fun x14=>
  cond (((decide (x14.dev=d2.dev)&&decide (x14.n=d2.n))))
   (M.pure (.done (.ret true)))
   (M.pure (.next (IntKind.i64.wrap (i12+1)))))
  (M.pure (.done (.brk ())))
def jx(l1:List DT)(d2:DT):M Bool:=
 M.bind (M.loop (Xz l1 d2) 0) (M.exk (fun _=>
 M.pure false))
def ZH(e1:EV):Int->M (M.Step Int (M.Ex Unit Bool)):=fun i37=>
 cond ((decide (i37 < (e1.kills.length:Int))))
  (M.bind (M.idx e1.kills i37) fun x39=>
  M.bind (M.det (Yf x39)) fun v41=>
  cond (!v41)
   (M.pure (.done (.ret false)))
   (M.pure (.next (IntKind.i64.wrap (i37+1)))))
  (M.pure (.done (.brk ())))
def Yg(e1:EV):M Bool:=
 M.bind (M.det (Xx e1.cid)) fun v2=>
 M.bind (cond (!v2.2)
  (M.pure true)
  (M.bind (M.det (Yf e1.dot)) fun v6=>
  cond (!v6)
   (M.pure true)
   (cond (!decide (e1.kind=1))
    (M.pure (!decide (e1.kind=2)))
    (M.pure false)))) (fun v4=>
 cond v4
  (M.pure false)
  (M.bind (cond (decide (e1.kind=1))
   (M.bind (M.det (jE e1.field)) fun v13=>
   cond (!v13)
    (M.pure true)
    (M.bind (M.det (jF e1.text)) fun v16=>
    cond (!v16)
     (M.pure true)
     (cond (decide (e1.kind=2))
      (cond (!decide (e1.field=0))
       (M.pure true)
       (M.pure ((!decide (e1.text=(⟨#[]⟩:ByteArray))))))
      (M.pure false))))
   (cond (decide (e1.kind=2))
    (cond (!decide (e1.field=0))
     (M.pure true)
     (M.pure ((!decide (e1.text=(⟨#[]⟩:ByteArray))))))
    (M.pure false))) (fun v11=>
  cond v11
   (M.pure false)
   (M.bind (M.loop (ZH e1) 0) (M.exk (fun _=>
   M.bind (cond ((decide ((e1.kills.length:Int)<=256)))
    (M.bind (M.det (Xy e1.kills)) fun v46=>
    cond v46
     (M.bind (M.det (jx e1.kills e1.dot)) fun v49=>
     M.pure (!v49))
     (M.pure false))
    (M.pure false)) (fun v44=>
   M.pure v44)))))))
def Yh(a1:List DT)(b2:List DT):Int->M (M.Step Int (M.Ex Unit Bool)):=fun i17=>
 cond ((decide (i17 < (a1.length:Int))))
  (M.bind (M.idx a1 i17) fun x19=>
  M.bind (M.idx b2 i17) fun x21=>
  cond ((!(decide (x19.dev=x21.dev)&&decide (x19.n=x21.n))))
   (M.pure (.done (.ret false)))
   (M.pure (.next (IntKind.i64.wrap (i17+1)))))
  (M.pure (.done (.brk ())))
def VM(a1:List DT)(b2:List DT):M Bool:=
 cond ((!decide ((a1.length:Int)=(b2.length:Int))))
  (M.pure false)
  (M.bind (M.loop (Yh a1 b2) 0) (M.exk (fun _=>
  M.pure true)))
def Yi(a1:EV)(b2:EV):M Bool:=
 M.bind (cond (((decide (a1.dot.dev=b2.dot.dev)&&decide (a1.dot.n=b2.dot.n))))
  (cond (decide (a1.kind=b2.kind))
   (cond (decide (a1.cid=b2.cid))
    (cond (decide (a1.field=b2.field))
     (cond (decide (a1.text=b2.text))
      (M.bind (M.det (VM a1.kills b2.kills)) fun v9=>
      M.pure v9)
      (M.pure false))
     (M.pure false))
    (M.pure false))
   (M.pure false))
  (M.pure false)) (fun v3=>
 M.pure v3)
def uCa(a1:List RN)(b2:List RN):Int->M (M.Step Int (M.Ex Unit Bool)):=fun i17=>
 cond ((decide (i17 < (a1.length:Int))))
  (M.bind (M.idx a1 i17) fun x19=>
  M.bind (M.idx b2 i17) fun x21=>
  cond ((!(decide (x19.lo=x21.lo)&&decide (x19.hi=x21.hi))))
   (M.pure (.done (.ret false)))
   (M.pure (.next (IntKind.i64.wrap (i17+1)))))
  (M.pure (.done (.brk ())))
def wLa(a1:List RN)(b2:List RN):M Bool:=
 cond ((!decide ((a1.length:Int)=(b2.length:Int))))
  (M.pure false)
  (M.bind (M.loop (uCa a1 b2) 0) (M.exk (fun _=>
  M.pure true)))
def VN(a1:List PT)(b2:List PT):Int->M (M.Step Int (M.Ex Unit Bool)):=fun i33=>
 cond ((decide (i33 < (a1.length:Int))))
  (M.bind (M.bind (M.idx a1 i33) fun x36=>
  M.bind (M.idx b2 i33) fun x38=>
  cond (!decide (x36.dev=x38.dev))
   (M.pure true)
   (M.bind (M.idx a1 i33) fun x41=>
   M.bind (M.idx b2 i33) fun x43=>
   M.bind (M.det (wLa x41.runs x43.runs)) fun v45=>
   M.pure (!v45))) (fun v35=>
  cond v35
   (M.pure (.done (.ret false)))
   (M.pure (.next (IntKind.i64.wrap (i33+1))))))
  (M.pure (.done (.brk ())))
def Wb(a1:List PT)(b2:List PT):M Bool:=
 cond ((!decide ((a1.length:Int)=(b2.length:Int))))
  (M.pure false)
  (M.bind (M.loop (VN a1 b2) 0) (M.exk (fun _=>
  M.pure true)))
def jy(x1:RN):M Bool:=
 M.bind (cond (decide (1<=x1.lo))
  (cond (decide (x1.lo<=x1.hi))
   (M.pure (decide (x1.hi<=281474976710655)))
   (M.pure false))
  (M.pure false)) (fun v2=>
 M.pure v2)
def WA(l1:List RN)(n2:Int):Int->M (M.Step Int (M.Ex Unit Bool)):=fun i30=>
 cond ((decide (i30 < (l1.length:Int))))
  (M.bind (M.bind (M.idx l1 i30) fun x33=>
  M.bind (M.det (jy x33)) fun v35=>
  cond v35
   (M.bind (M.idx l1 i30) fun x38=>
   cond (decide (x38.lo<=n2))
    (M.bind (M.idx l1 i30) fun x41=>
    M.pure (decide (n2<=x41.hi)))
    (M.pure false))
   (M.pure false)) (fun v32=>
  cond v32
   (M.pure (.done (.ret true)))
   (M.pure (.next (IntKind.i64.wrap (i30+1))))))
  (M.pure (.done (.brk ())))
def UJ(l1:List RN)(n2:Int):M Bool:=
 M.bind (M.loop (WA l1 n2) 0) (M.exk (fun _=>
 M.pure false))
def WB(l1:List Int)(n2:Int):Bool×Int×List Int->M (M.Step (Bool×Int×List Int) (Bool×List Int)):=fun⟨done43,i44,out45⟩=>
 cond ((decide (i44 < (l1.length:Int))))
  (M.bind (M.bind (cond (!done43)
   (M.bind (M.idx l1 i44) fun x51=>
   M.pure (decide (n2<=x51)))
   (M.pure false)) (fun v49=>
  M.bind (cond v49
   (M.xg ((out45.length+List.length ([n2]))*8<=140737488355328) <|
   M.pure (true,(out45++[n2])))
   (M.pure (done43,out45))) (fun⟨done53,out54⟩=>
  M.bind (M.idx l1 i44) fun x57=>
  cond (!decide (x57=n2))
   (M.bind (M.idx l1 i44) fun x60=>
   M.xg ((out54.length+List.length ([x60]))*8<=140737488355328) <|
   M.pure (done53,(out54++[x60])))
   (M.pure (done53,out54))))) (fun⟨done47,out48⟩=>
  M.pure (.next ((done47,(IntKind.i64.wrap (i44+1)),out48)))))
  (M.pure (.done (done43,out45)))
def jz(l1:List Int)(n2:Int):M (List Int):=
 M.bind (M.loop (WB l1 n2) (false,0,([]:List Int))) (fun⟨done3,out4⟩=>
 M.bind (cond (!done3)
  (M.xg ((out4.length+List.length ([n2]))*8<=140737488355328) <|
  M.pure (out4++[n2]))
  (M.pure out4)) (fun out63=>
 M.pure out63))
def uc(a1:List RN)(b2:List RN):List Int×Int->M (M.Step (List Int×Int) (List Int)):=fun⟨out38,i39⟩=>
 cond ((decide (i39 < (((List.length ((([]:List RN)++a1)++b2)):Int)))))
  (M.bind (M.bind (M.idx (((([]:List RN)++a1)++b2)) i39) fun x42=>
  M.bind (M.det (jy x42)) fun v44=>
  cond v44
   (M.bind (M.idx (((([]:List RN)++a1)++b2)) i39) fun x47=>
   M.bind (M.det (jz out38 x47.lo)) fun v49=>
   M.bind (M.idx (((([]:List RN)++a1)++b2)) i39) fun x51=>
   M.bind (M.det (jz v49 (IntKind.u64.wrap (x51.hi+1)))) fun v53=>
   M.pure v53)
   (M.pure out38)) (fun out41=>
  M.pure (.next ((out41,(IntKind.i64.wrap (i39+1)))))))
  (M.pure (.done out38))
def WC(a1:List RN)(b2:List RN):M (List Int):=
 M.xg ((List.length ([]:List RN)+a1.length)*16<=140737488355328) <|
 M.xg ((List.length (([]:List RN)++a1)+b2.length)*16<=140737488355328) <|
 M.bind (M.loop (uc a1 b2) (([]:List Int),0)) (fun out5=>
 M.pure out5)
def WD(v4:List Int)(a1:List RN)(b2:List RN)(how3:Int):Int×List RN->M (M.Step (Int×List RN) (List RN)):=fun⟨i85,out86⟩=>
 cond ((decide ((IntKind.i64.wrap (i85+1)) < (v4.length:Int))))
  (M.bind (M.bind (M.idx v4 i85) fun x89=>
  M.bind (M.det (UJ a1 x89)) fun v91=>
  M.bind (M.idx v4 i85) fun x93=>
  M.bind (M.det (UJ b2 x93)) fun v95=>
  M.bind (cond v91
   (M.pure true)
   (M.pure v95)) (fun in97=>
  M.bind (cond (decide (how3=1))
   (M.bind (cond v91
    (M.pure v95)
    (M.pure false)) (fun in101=>
   M.pure in101))
   (M.pure in97)) (fun in99=>
  M.bind (cond (decide (how3=2))
   (M.bind (cond v91
    (M.pure (!v95))
    (M.pure false)) (fun in105=>
   M.pure in105))
   (M.pure in99)) (fun in103=>
  M.bind (cond in103
   (cond ((decide (0<=((IntKind.i64.wrap (((out86.length):Int) - 1))))))
    (M.bind (M.idx out86 ((IntKind.i64.wrap (((out86.length):Int) - 1)))) fun x110=>
    M.bind (M.idx v4 i85) fun x112=>
    M.pure ((decide ((IntKind.u64.wrap (x110.hi+1))=x112))))
    (M.pure false))
   (M.pure false)) (fun v107=>
  cond v107
   (M.bind (M.idx v4 (IntKind.i64.wrap (i85+1))) fun x115=>
   M.bind (M.idx out86 ((IntKind.i64.wrap (((out86.length):Int) - 1)))) fun x117=>
   M.pure ((List.set out86 ((Int.toNat ((IntKind.i64.wrap (((out86.length):Int) - 1))))) ((⟨x117.lo,(IntKind.u64.wrap (x115 - 1))⟩:RN)))))
   (cond in103
    (M.bind (M.idx v4 i85) fun x120=>
    M.bind (M.idx v4 (IntKind.i64.wrap (i85+1))) fun x122=>
    M.xg ((out86.length+List.length ([(⟨x120,(IntKind.u64.wrap (x122 - 1))⟩:RN)]))*16<=140737488355328) <|
    M.pure ((out86++[(⟨x120,(IntKind.u64.wrap (x122 - 1))⟩:RN)])))
    (M.pure out86))))))) (fun out88=>
  M.pure (.next (((IntKind.i64.wrap (i85+1)),out88)))))
  (M.pure (.done out86))
def UK(a1:List RN)(b2:List RN)(how3:Int):M (List RN):=
 M.bind (M.det (WC a1 b2)) fun v4=>
 M.bind (M.loop (WD v4 a1 b2 how3) (0,([]:List RN))) (fun out6=>
 M.pure out6)
def VO(a1:List RN)(b2:List RN):M (List RN):=
 M.bind (M.det (UK a1 b2 0)) fun v3=>
 M.pure v3
def Yj(c1:List PT)(dev2:Int):List RN×Int->M (M.Step (List RN×Int) (List RN)):=fun⟨out28,i29⟩=>
 cond ((decide (i29 < (c1.length:Int))))
  (M.bind (M.bind (M.bind (M.idx c1 i29) fun x33=>
  cond (decide (x33.dev=dev2))
   (M.pure (!decide (dev2=0)))
   (M.pure false)) (fun v32=>
  cond v32
   (M.bind (M.idx c1 i29) fun x37=>
   M.bind (M.det (VO out28 x37.runs)) fun v39=>
   M.pure v39)
   (M.pure out28))) (fun out31=>
  M.pure (.next ((out31,(IntKind.i64.wrap (i29+1)))))))
  (M.pure (.done out28))
def WE(c1:List PT)(dev2:Int):M (List RN):=
 M.bind (M.loop (Yj c1 dev2) (([]:List RN),0)) (fun out3=>
 M.pure out3)
def WF(l1:List DT)(d2:DT):Int×List DT->M (M.Step (Int×List DT) (List DT)):=fun⟨i26,out27⟩=>
 cond ((decide (i26 < (l1.length:Int))))
  (M.bind (M.bind (M.idx l1 i26) fun x30=>
  M.bind (M.det (uN x30 d2)) fun v32=>
  cond (decide (v32 < 0))
   (M.bind (M.idx l1 i26) fun x35=>
   M.xg ((out27.length+List.length ([x35]))*16<=140737488355328) <|
   M.pure (out27++[x35]))
   (M.pure out27)) (fun out29=>
  M.pure (.next (((IntKind.i64.wrap (i26+1)),out29)))))
  (M.pure (.done out27))
def YL(l1:List DT)(d2:DT):Int×List DT->M (M.Step (Int×List DT) (List DT)):=fun⟨i62,out63⟩=>
 cond ((decide (i62 < (l1.length:Int))))
  (M.bind (M.bind (M.idx l1 i62) fun x66=>
  M.bind (M.det (uN x66 d2)) fun v68=>
  cond (decide (0 < v68))
   (M.bind (M.idx l1 i62) fun x71=>
   M.xg ((out63.length+List.length ([x71]))*16<=140737488355328) <|
   M.pure (out63++[x71]))
   (M.pure out63)) (fun out65=>
  M.pure (.next (((IntKind.i64.wrap (i62+1)),out65)))))
  (M.pure (.done out63))
def Yk(l1:List DT)(d2:DT):M (List DT):=
 M.bind (M.loop (WF l1 d2) (0,([]:List DT))) (fun out3=>
 M.xg ((out3.length+List.length ([d2]))*16<=140737488355328) <|
 M.bind (M.loop (YL l1 d2) (0,(out3++[d2]))) (fun out39=>
 M.pure out39))
def Yl(a1:List PT):List DT×Int->M (M.Step (List DT×Int) (List DT)):=fun⟨out16,i17⟩=>
 cond ((decide (i17 < (a1.length:Int))))
  (M.bind (M.idx a1 i17) fun x19=>
  M.bind (M.det (Yk out16 (⟨x19.dev,1⟩:DT))) fun v21=>
  M.pure (.next ((v21,(IntKind.i64.wrap (i17+1))))))
  (M.pure (.done out16))
def ZI(b2:List PT):List DT×Int->M (M.Step (List DT×Int) (List DT)):=fun⟨out36,i37⟩=>
 cond ((decide (i37 < (b2.length:Int))))
  (M.bind (M.idx b2 i37) fun x39=>
  M.bind (M.det (Yk out36 (⟨x39.dev,1⟩:DT))) fun v41=>
  M.pure (.next ((v41,(IntKind.i64.wrap (i37+1))))))
  (M.pure (.done out36))
def jG(a1:List PT)(b2:List PT):M (List DT):=
 M.bind (M.loop (Yl a1) (([]:List DT),0)) (fun out3=>
 M.bind (M.loop (ZI b2) (out3,0)) (fun out23=>
 M.pure out23))
def jH(a1:List RN)(b2:List RN):M (List RN):=
 M.bind (M.det (UK a1 b2 1)) fun v3=>
 M.pure v3
def VP(a1:List RN)(b2:List RN):M (List RN):=
 M.bind (M.det (UK a1 b2 2)) fun v3=>
 M.pure v3
def WG(v4:List DT)(a1:List PT)(b2:List PT)(how3:Int):Int×List PT->M (M.Step (Int×List PT) (List PT)):=fun⟨i57,out58⟩=>
 cond ((decide (i57 < (v4.length:Int))))
  (M.bind (M.bind (M.idx v4 i57) fun x61=>
  M.bind (M.det (WE a1 x61.dev)) fun v63=>
  M.bind (M.idx v4 i57) fun x65=>
  M.bind (M.det (WE b2 x65.dev)) fun v67=>
  M.bind (M.det (VO v63 v67)) fun v69=>
  M.bind (cond (decide (how3=1))
   (M.bind (M.det (jH v63 v67)) fun v73=>
   M.pure v73)
   (M.pure v69)) (fun z71=>
  M.bind (cond (decide (how3=2))
   (M.bind (M.det (VP v63 v67)) fun v77=>
   M.pure v77)
   (M.pure z71)) (fun z75=>
  cond ((decide (0 < (z75.length:Int))))
   (M.bind (M.idx v4 i57) fun x80=>
   M.xg ((out58.length+List.length ([(⟨x80.dev,z75⟩:PT)]))*32<=140737488355328) <|
   M.pure (out58++[(⟨x80.dev,z75⟩:PT)]))
   (M.pure out58)))) (fun out60=>
  M.pure (.next (((IntKind.i64.wrap (i57+1)),out60)))))
  (M.pure (.done out58))
def JA(a1:List PT)(b2:List PT)(how3:Int):M (List PT):=
 M.bind (M.det (jG a1 b2)) fun v4=>
 M.bind (M.loop (WG v4 a1 b2 how3) (0,([]:List PT))) (fun out6=>
 M.pure out6)
def Zt(c1:List PT):M (List PT):=
 M.bind (M.det (JA c1 ([]:List PT) 0)) fun v2=>
 M.pure v2
def xB(c1:List PT):M Bool:=
 M.bind (M.det (Zt c1)) fun v2=>
 M.bind (M.det (Wb c1 v2)) fun v4=>
 M.pure v4
def VQ(a1:List PT)(b2:List PT):M (List PT):=
 M.bind (M.det (JA a1 b2 2)) fun v3=>
 M.pure v3
def WH(a1:List PT)(b2:List PT):M Bool:=
 M.bind (M.det (VQ a1 b2)) fun v3=>
 M.pure ((decide (((v3.length):Int)=0)))
def UL(c1:List PT)(d2:DT):M Bool:=
 M.bind (M.bind (M.det (Yf d2)) fun v4=>
 cond v4
  (M.bind (M.det (WE c1 d2.dev)) fun v7=>
  M.bind (M.det (UJ v7 d2.n)) fun v9=>
  M.pure v9)
  (M.pure false)) (fun v3=>
 M.pure v3)
def Ym(l1:List EV)(d2:DT):Int->M (M.Step Int (M.Ex Unit Bool)):=fun i_16=>
 cond ((decide (i_16 < (l1.length:Int))))
  (M.bind (M.idx l1 i_16) fun x18=>
  M.bind (M.det (jx x18.kills d2)) fun v20=>
  cond v20
   (M.pure (.done (.ret true)))
   (M.pure (.next (IntKind.i64.wrap (i_16+1)))))
  (M.pure (.done (.brk ())))
def Yn(l1:List EV)(d2:DT):M Bool:=
 M.bind (M.loop (Ym l1 d2) 0) (M.exk (fun _=>
 M.pure false))
def Yo(l1:List DT)(c2:List PT):List DT×Int->M (M.Step (List DT×Int) (List DT)):=fun⟨out28,i29⟩=>
 cond ((decide (i29 < (l1.length:Int))))
  (M.bind (M.bind (M.idx l1 i29) fun x32=>
  M.bind (M.det (UL c2 x32)) fun v34=>
  cond (!v34)
   (M.bind (M.idx l1 i29) fun x37=>
   M.bind (M.det (Yk out28 x37)) fun v39=>
   M.pure v39)
   (M.pure out28)) (fun out31=>
  M.pure (.next ((out31,(IntKind.i64.wrap (i29+1)))))))
  (M.pure (.done out28))
def VR(l1:List DT)(c2:List PT):M (List DT):=
 M.bind (M.loop (Yo l1 c2) (([]:List DT),0)) (fun out3=>
 M.pure out3)
def ZJ(l1:List EV)(i80:Int):List DT×Int->M (M.Step (List DT×Int) (List DT)):=fun⟨out107,k108⟩=>
 M.bind (M.idx l1 i80) fun x109=>
 cond ((decide (k108 < (x109.kills.length:Int))))
  (M.bind (M.idx l1 i80) fun x112=>
  M.bind (M.idx x112.kills k108) fun x114=>
  M.bind (M.det (Yk out107 x114)) fun v116=>
  M.pure (.next ((v116,(IntKind.i64.wrap (k108+1))))))
  (M.pure (.done out107))
def Yp(l1:List EV):List DT×Int->M (M.Step (List DT×Int) (List DT)):=fun⟨out79,i80⟩=>
 cond ((decide (i80 < (l1.length:Int))))
  (M.bind (M.bind (M.idx l1 i80) fun x83=>
  M.bind (M.det (Yk out79 x83.dot)) fun v85=>
  M.loop (ZJ l1 i80) (v85,0)) (fun out82=>
  M.pure (.next ((out82,(IntKind.i64.wrap (i80+1)))))))
  (M.pure (.done out79))
def VS(l1:List EV):M (List DT):=
 M.bind (M.loop (Yp l1) (([]:List DT),0)) (fun out2=>
 M.pure out2)
def ZK(d1:DL):Int->M (M.Step Int (M.Ex Unit Bool)):=fun i66=>
 cond ((decide (i66 < (d1.events.length:Int))))
  (M.bind (M.idx d1.events i66) fun x68=>
  M.bind (M.bind (M.det (Yg x68)) fun v71=>
  cond (!v71)
   (M.pure true)
   (cond (decide (0 < i66))
    (M.bind (M.idx d1.events (IntKind.i64.wrap (i66 - 1))) fun x75=>
    M.bind (M.det (uN x75.dot x68.dot)) fun v77=>
    cond (decide (0<=v77))
     (M.pure true)
     (M.bind (M.det (UL d1.from_ x68.dot)) fun v80=>
     cond v80
      (M.pure true)
      (cond (decide (x68.kind=1))
       (M.bind (M.det (Yn d1.events x68.dot)) fun v84=>
       M.pure v84)
       (M.pure false))))
    (M.bind (M.det (UL d1.from_ x68.dot)) fun v86=>
    cond v86
     (M.pure true)
     (cond (decide (x68.kind=1))
      (M.bind (M.det (Yn d1.events x68.dot)) fun v90=>
      M.pure v90)
      (M.pure false))))) (fun v70=>
  cond v70
   (M.pure (.done (.ret false)))
   (M.pure (.next (IntKind.i64.wrap (i66+1))))))
  (M.pure (.done (.brk ())))
def jI(d1:DL):M Bool:=
 M.bind (M.bind (M.det (xB d1.from_)) fun v3=>
 cond (!v3)
  (M.pure true)
  (M.bind (M.det (xB d1.to_)) fun v6=>
  cond (!v6)
   (M.pure true)
   (M.bind (M.det (WH d1.from_ d1.to_)) fun v9=>
   cond (!v9)
    (M.pure true)
    (M.pure ((decide (4096 < (d1.events.length:Int)))))))) (fun v2=>
 cond v2
  (M.pure false)
  (M.bind (M.loop (ZK d1) 0) (M.exk (fun _=>
  M.bind (M.det (VS d1.events)) fun v93=>
  M.bind (M.det (VR v93 d1.to_)) fun v95=>
  M.pure ((decide ((v95.length:Int)=0)))))))
def ud(l1:List EV):Int->M (M.Step Int (M.Ex Unit Bool)):=fun i33=>
 cond ((decide (i33 < (l1.length:Int))))
  (M.bind (M.bind (M.idx l1 i33) fun x36=>
  M.bind (M.det (Yg x36)) fun v38=>
  cond (!v38)
   (M.pure true)
   (cond (decide (0 < i33))
    (M.bind (M.idx l1 (IntKind.i64.wrap (i33 - 1))) fun x42=>
    M.bind (M.idx l1 i33) fun x44=>
    M.bind (M.det (uN x42.dot x44.dot)) fun v46=>
    M.pure (decide (0<=v46)))
    (M.pure false))) (fun v35=>
  cond v35
   (M.pure (.done (.ret false)))
   (M.pure (.next (IntKind.i64.wrap (i33+1))))))
  (M.pure (.done (.brk ())))
def WI(l1:List EV):M Bool:=
 M.bind (M.loop (ud l1) 0) (M.exk (fun _=>
 M.bind (cond ((decide (1<=(l1.length:Int))))
  (M.pure ((decide ((l1.length:Int)<=4))))
  (M.pure false)) (fun v49=>
 M.pure v49)))
def jJ(e1:TEntry):M Bool:=
 M.bind (cond (decide (e1.kind < 1))
  (M.pure true)
  (cond (decide (10 < e1.kind))
   (M.pure true)
   (cond (decide (16<=e1.slot))
    (M.pure true)
    (M.bind (M.det (yQ e1.kind 1)) fun v6=>
    cond (!v6)
     (M.pure (!decide (e1.slot=0)))
     (M.pure false))))) (fun v2=>
 cond v2
  (M.pure false)
  (M.bind (M.bind (M.det (yQ e1.kind 2)) fun v11=>
  cond ((!(v11==(!decide (e1.try_=0)))))
   (M.pure true)
   (M.bind (M.det (yQ e1.kind 2)) fun v14=>
   cond v14
    (M.bind (M.det (vL e1.try_)) fun v17=>
    cond (!v17)
     (M.pure true)
     (M.bind (M.det (yQ e1.kind 3)) fun v20=>
     cond ((!(v20==(!decide (e1.dev=0)))))
      (M.pure true)
      (M.bind (M.det (yQ e1.kind 4)) fun v23=>
      cond ((!(v23==(!decide (e1.epoch=0)))))
       (M.pure true)
       (M.bind (M.det (yQ e1.kind 4)) fun v26=>
       cond v26
        (M.bind (M.det (vL e1.epoch)) fun v29=>
        M.pure (!v29))
        (M.pure false)))))
    (M.bind (M.det (yQ e1.kind 3)) fun v31=>
    cond ((!(v31==(!decide (e1.dev=0)))))
     (M.pure true)
     (M.bind (M.det (yQ e1.kind 4)) fun v34=>
     cond ((!(v34==(!decide (e1.epoch=0)))))
      (M.pure true)
      (M.bind (M.det (yQ e1.kind 4)) fun v37=>
      cond v37
       (M.bind (M.det (vL e1.epoch)) fun v40=>
       M.pure (!v40))
       (M.pure false)))))) (fun v10=>
  cond v10
   (M.pure false)
   (M.bind (M.bind (M.det (yQ e1.kind 5)) fun v44=>
   cond v44
    (M.bind (M.det (Yg e1.event)) fun v47=>
    cond (!v47)
     (M.pure true)
     (M.bind (M.det (yQ e1.kind 5)) fun v50=>
     cond (!v50)
      (M.bind (M.det (Yi e1.event (⟨(⟨0,0⟩:DT),0,0,0,(⟨#[]⟩:ByteArray),([]:List DT)⟩:EV))) fun v53=>
      M.pure (!v53))
      (M.pure false)))
    (M.bind (M.det (yQ e1.kind 5)) fun v55=>
    cond (!v55)
     (M.bind (M.det (Yi e1.event (⟨(⟨0,0⟩:DT),0,0,0,(⟨#[]⟩:ByteArray),([]:List DT)⟩:EV))) fun v58=>
     M.pure (!v58))
     (M.pure false))) (fun v43=>
   cond v43
    (M.pure false)
    (M.bind (M.bind (M.det (yQ e1.kind 6)) fun v62=>
    cond (!v62)
     (cond ((!decide ((e1.have_.length:Int)=0)))
      (M.pure true)
      (M.bind (M.det (yQ e1.kind 8)) fun v66=>
      cond (!v66)
       (cond ((!decide ((e1.front.length:Int)=0)))
        (M.pure true)
        (M.bind (M.det (xB e1.have_)) fun v70=>
        cond (!v70)
         (M.pure true)
         (M.bind (M.det (xB e1.front)) fun v73=>
         M.pure (!v73))))
       (M.bind (M.det (xB e1.have_)) fun v75=>
       cond (!v75)
        (M.pure true)
        (M.bind (M.det (xB e1.front)) fun v78=>
        M.pure (!v78)))))
     (M.bind (M.det (yQ e1.kind 8)) fun v80=>
     cond (!v80)
      (cond ((!decide ((e1.front.length:Int)=0)))
       (M.pure true)
       (M.bind (M.det (xB e1.have_)) fun v84=>
       cond (!v84)
        (M.pure true)
        (M.bind (M.det (xB e1.front)) fun v87=>
        M.pure (!v87))))
      (M.bind (M.det (xB e1.have_)) fun v89=>
      cond (!v89)
       (M.pure true)
       (M.bind (M.det (xB e1.front)) fun v92=>
       M.pure (!v92))))) (fun v61=>
    cond v61
     (M.pure false)
     (M.bind (M.det (yQ e1.kind 7)) fun v95=>
     cond v95
      (M.bind (M.det (jI e1.delta)) fun v98=>
      M.pure v98)
      (M.bind (cond ((!decide ((e1.delta.from_.length:Int)=0)))
       (M.pure true)
       (M.pure ((!decide ((e1.delta.to_.length:Int)=0))))) (fun v100=>
      cond v100
       (M.pure false)
       (M.bind (M.det (yQ e1.kind 9)) fun v103=>
       cond v103
        (M.bind (M.det (WI e1.delta.events)) fun v106=>
        M.pure v106)
        (M.pure ((decide ((e1.delta.events.length:Int)=0)))))))))))))))
def ZL(x7:Int)(at2:Int)(b1:List Int):Int×Int->M (M.Step (Int×Int) Int):=fun⟨v28,v29⟩=>
 cond ((decide (v29 < ((List.length ((List.drop (Int.toNat 0) (List.take (Int.toNat (IntKind.i64.wrap x7)) ((List.drop (Int.toNat (IntKind.i64.wrap (at2+1))) (List.take (Int.toNat (b1.length:Int)) b1)))))):Int)))))
  (M.bind (M.idx ((List.drop (Int.toNat 0) (List.take (Int.toNat (IntKind.i64.wrap x7)) ((List.drop (Int.toNat (IntKind.i64.wrap (at2+1))) (List.take (Int.toNat (b1.length:Int)) b1)))))) v29) fun x31=>
  M.pure (.next (((bOr .u64 (IntKind.u64.wrap (v28*2 ^ 8)) (IntKind.u64.wrap x31)),(IntKind.i64.wrap (v29+1))))))
  (M.pure (.done v28))
def jK(b1:List Int)(at2:Int):M (Int×Int×Int):=
 M.bind (cond (decide (at2 < 0))
  (M.pure true)
  (M.pure ((decide ((b1.length:Int) < at2))))) (fun v3=>
 cond v3
  (M.pure (0,0,1))
  (cond ((decide (at2=(b1.length:Int))))
   (M.pure (0,0,2))
   (M.bind (M.idx b1 at2) fun x7=>
   M.xg ((0:Int)<=(IntKind.i64.wrap (at2+1))/\((IntKind.i64.wrap (at2+1)):Int)<=(b1.length:Int)/\(b1.length:Int)<=(b1.length:Int)) <|
   M.bind (cond ((decide (8 < (IntKind.i64.wrap x7))))
    (M.pure true)
    (cond ((decide (0 < (IntKind.i64.wrap x7))))
     (cond ((decide (0 < ((List.length ((List.drop (Int.toNat (IntKind.i64.wrap (at2+1))) (List.take (Int.toNat (b1.length:Int)) b1))):Int)))))
      (M.bind (M.idx ((List.drop (Int.toNat (IntKind.i64.wrap (at2+1))) (List.take (Int.toNat (b1.length:Int)) b1))) 0) fun x14=>
      M.pure (decide (x14=0)))
      (M.pure false))
     (M.pure false))) (fun v10=>
   cond v10
    (M.pure (0,0,4))
    (cond ((decide (((List.length ((List.drop (Int.toNat (IntKind.i64.wrap (at2+1))) (List.take (Int.toNat (b1.length:Int)) b1))):Int)) < (IntKind.i64.wrap x7))))
     (M.pure (0,0,2))
     (M.xg ((0:Int)<=0/\(0:Int)<=(IntKind.i64.wrap x7)/\(IntKind.i64.wrap x7)<=(List.length ((List.drop (Int.toNat (IntKind.i64.wrap (at2+1))) (List.take (Int.toNat (b1.length:Int)) b1))):Int)) <|
     M.bind (M.loop (ZL x7 at2 b1) (0,0)) (fun v19=>
     M.pure ((v19,(IntKind.i64.wrap ((IntKind.i64.wrap (at2+1))+(IntKind.i64.wrap x7))),0)))))))))
def YM(b1:List Int):M (List Int×Int):=
 M.xg (b1.length*1<=140737488355328) <|
 M.pure (b1,0)
def zT(b_1:List Int)(bad_2:Int):M (Int×List Int×Int):=
 M.pure (bad_2,b_1,bad_2)
def uO(b_1:List Int)(bad_2:Int):M (Int×List Int×Int):=
 M.pure ((b_1.length:Int),b_1,bad_2)
def yX(b_1:List Int)(bad_2:Int):M (Int×List Int×Int):=
 M.bind (M.det (uO b_1 bad_2)) fun y3=>
 M.pure (y3.1,y3.2.1,y3.2.2)
def zI(e1:Int)(b_2:List Int)(bad_3:Int):M (List Int×Int):=
 M.bind (cond (decide (bad_3=0))
  (M.pure (!decide (e1=0)))
  (M.pure false)) (fun v4=>
 cond v4
  (M.pure (([]:List Int),e1))
  (M.pure (b_2,bad_3)))
def ym(n1:Int)(b_2:List Int)(bad_3:Int):M (List Int×List Int×Int):=
 M.xg ((0:Int)<=0/\(0:Int)<=n1/\n1<=(b_2.length:Int)) <|
 M.xg ((0:Int)<=n1/\(n1:Int)<=(b_2.length:Int)/\(b_2.length:Int)<=(b_2.length:Int)) <|
 M.pure (((List.drop (Int.toNat 0) (List.take (Int.toNat n1) b_2)),(List.drop (Int.toNat n1) (List.take (Int.toNat (b_2.length:Int)) b_2)),bad_3))
def zV(b_1:List Int)(bad_2:Int):M (Int×List Int×Int):=
 M.bind (M.det (zT b_1 bad_2)) fun y3=>
 cond (!decide (y3.1=0))
  (M.pure (0,y3.2.1,y3.2.2))
  (M.bind (M.det (yX y3.2.1 y3.2.2)) fun y6=>
  cond (decide (y6.1=0))
   (M.bind (M.det (zI 2 y6.2.1 y6.2.2)) fun y9=>
   M.pure (0,y9.1,y9.2))
   (M.bind (M.det (ym 1 y6.2.1 y6.2.2)) fun y11=>
   M.bind (M.idx y11.1 0) fun x13=>
   M.pure (x13,y11.2.1,y11.2.2)))
def zK(b_1:List Int)(bad_2:Int):M (Int×List Int×Int):=
 M.bind (M.det (zT b_1 bad_2)) fun y3=>
 cond (!decide (y3.1=0))
  (M.pure (0,y3.2.1,y3.2.2))
  (M.bind (M.det (jK y3.2.1 0)) fun v6=>
  cond (!decide (v6.2.2=0))
   (M.bind (M.det (zI v6.2.2 y3.2.1 y3.2.2)) fun y9=>
   M.pure (0,y9.1,y9.2))
   (M.bind (M.det (ym v6.2.1 y3.2.1 y3.2.2)) fun y11=>
   M.pure (v6.1,y11.2.1,y11.2.2)))
def yB(most1:Int)(b_2:List Int)(bad_3:Int):M (Int×List Int×Int):=
 M.bind (M.det (zK b_2 bad_3)) fun y4=>
 cond (decide (most1 < y4.1))
  (M.bind (M.det (zI 4 y4.2.1 y4.2.2)) fun y7=>
  M.pure (0,y7.1,y7.2))
  (M.pure (y4.1,y4.2.1,y4.2.2))
def vf(b_1:List Int)(bad_2:Int):M (DT×List Int×Int):=
 M.bind (M.det (yB 65535 b_1 bad_2)) fun y3=>
 M.bind (M.det (zK y3.2.1 y3.2.2)) fun y5=>
 M.bind (M.det (Zn (⟨(IntKind.u16.wrap y3.1),y5.1⟩:DT))) fun v7=>
 M.bind (cond (!v7)
  (M.bind (M.det (zI 4 y5.2.1 y5.2.2)) fun y12=>
  M.pure (y12.1,y12.2))
  (M.pure (y5.2.1,y5.2.2))) (fun⟨v9,v10⟩=>
 M.bind (M.det (zT v9 v10)) fun y14=>
 cond (!decide (y14.1=0))
  (M.pure ((⟨0,0⟩:DT),y14.2.1,y14.2.2))
  (M.pure (((⟨(IntKind.u16.wrap y3.1),y5.1⟩:DT),y14.2.1,y14.2.2))))
def yt(most1:Int)(b_2:List Int)(bad_3:Int):M (ByteArray×List Int×Int):=
 M.bind (M.det (zK b_2 bad_3)) fun y4=>
 M.bind (M.det (zT y4.2.1 y4.2.2)) fun y6=>
 cond (!decide (y6.1=0))
  (M.pure ((⟨#[]⟩:ByteArray),y6.2.1,y6.2.2))
  (cond ((decide ((IntKind.u64.wrap (max most1 0)) < y4.1)))
   (M.bind (M.det (zI 3 y6.2.1 y6.2.2)) fun y10=>
   M.pure ((⟨#[]⟩:ByteArray),y10.1,y10.2))
   (M.bind (M.det (yX y6.2.1 y6.2.2)) fun y12=>
   cond ((decide ((IntKind.u64.wrap y12.1) < y4.1)))
    (M.bind (M.det (zI 2 y12.2.1 y12.2.2)) fun y15=>
    M.pure ((⟨#[]⟩:ByteArray),y15.1,y15.2))
    (M.bind (M.det (ym (IntKind.i64.wrap y4.1) y12.2.1 y12.2.2)) fun y17=>
    M.pure ((z4a y17.1),y17.2.1,y17.2.2))))
def xH(y4:Int×List Int×Int):Int×List DT×List Int×Int->M (M.Step (Int×List DT×List Int×Int) (M.Ex (List DT×List Int×Int) (List DT×List Int×Int))):=fun⟨v52,out53,v54,v55⟩=>
 cond (decide (v52 < y4.1))
  (M.bind (M.det (vf v54 v55)) fun y57=>
  M.bind (cond ((decide (0<=((IntKind.i64.wrap (((out53.length):Int) - 1))))))
   (M.bind (M.idx out53 ((IntKind.i64.wrap (((out53.length):Int) - 1)))) fun x61=>
   M.bind (M.det (wP x61 y57.1)) fun v63=>
   M.pure (decide (0<=v63)))
   (M.pure false)) (fun v59=>
  M.bind (cond v59
   (M.bind (M.det (zI 4 y57.2.1 y57.2.2)) fun y68=>
   M.pure (y68.1,y68.2))
   (M.pure (y57.2.1,y57.2.2))) (fun⟨v65,v66⟩=>
  M.bind (M.det (zT v65 v66)) fun y70=>
  cond (!decide (y70.1=0))
   (M.pure (.done ((.ret (([]:List DT),y70.2.1,y70.2.2)))))
   (M.xg ((out53.length+List.length ([y57.1]))*16<=140737488355328) <|
   M.pure (.next (((IntKind.u64.wrap (v52+1)),(out53++[y57.1]),y70.2.1,y70.2.2)))))))
  (M.pure (.done (.brk (out53,v54,v55))))
def uE(most1:Int)(b_2:List Int)(bad_3:Int):M (List DT×List Int×Int):=
 M.bind (M.det (zK b_2 bad_3)) fun y4=>
 cond ((decide ((IntKind.u64.wrap (max most1 0)) < y4.1)))
  (M.bind (M.det (zI 3 y4.2.1 y4.2.2)) fun y7=>
  M.pure (([]:List DT),y7.1,y7.2))
  (M.bind (M.loop (xH y4) (0,([]:List DT),y4.2.1,y4.2.2)) (M.exk (fun⟨out9,v10,v11⟩=>
  M.pure (out9,v10,v11))))
def ZM(b_1:List Int)(bad_2:Int):M (EV×List Int×Int):=
 M.bind (M.det (vf b_1 bad_2)) fun y3=>
 M.bind (M.det (zV y3.2.1 y3.2.2)) fun y5=>
 M.bind (M.det (zK y5.2.1 y5.2.2)) fun y7=>
 M.bind (M.det (zV y7.2.1 y7.2.2)) fun y9=>
 M.bind (M.det (yt 60 y9.2.1 y9.2.2)) fun y11=>
 M.bind (M.det (uE 256 y11.2.1 y11.2.2)) fun y13=>
 M.bind (M.det (xx (⟨y3.1,y5.1,y7.1,y9.1,y11.1,y13.1⟩:EV))) fun v15=>
 M.bind (cond (!v15)
  (M.bind (M.det (zI 4 y13.2.1 y13.2.2)) fun y20=>
  M.pure (y20.1,y20.2))
  (M.pure (y13.2.1,y13.2.2))) (fun⟨v17,v18⟩=>
 M.bind (M.det (zT v17 v18)) fun y22=>
 cond (!decide (y22.1=0))
  (M.pure (((⟨(⟨0,0⟩:DT),0,0,0,(⟨#[]⟩:ByteArray),([]:List DT)⟩:EV),y22.2.1,y22.2.2)))
  (M.pure ((⟨y3.1,y5.1,y7.1,y9.1,y11.1,y13.1⟩:EV),y22.2.1,y22.2.2)))
def xI(y5:Int×List Int×Int):Int×List RN×List Int×Int->M (M.Step (Int×List RN×List Int×Int) (List RN×List Int×Int)):=fun⟨v32,v33,v34,v35⟩=>
 cond (decide (v32 < y5.1))
  (M.bind (M.det (zK v34 v35)) fun y37=>
  M.bind (M.det (zK y37.2.1 y37.2.2)) fun y39=>
  M.xg ((v33.length+List.length ([(⟨y37.1,y39.1⟩:RN)]))*16<=140737488355328) <|
  M.bind (M.det (zT y39.2.1 y39.2.2)) fun y42=>
  cond (!decide (y42.1=0))
   (M.pure (.done ((((v33++[(⟨y37.1,y39.1⟩:RN)]),y42.2.1,y42.2.2)))))
   (M.pure (.next (((IntKind.u64.wrap (v32+1)),(v33++[(⟨y37.1,y39.1⟩:RN)]),y42.2.1,y42.2.2)))))
  (M.pure (.done (v33,v34,v35)))
def Zu(b_1:List Int)(bad_2:Int):M (PT×List Int×Int):=
 M.bind (M.det (yB 65535 b_1 bad_2)) fun y3=>
 M.bind (M.det (zK y3.2.1 y3.2.2)) fun y5=>
 M.bind (M.loop (xI y5) (0,([]:List RN),y5.2.1,y5.2.2)) (fun⟨v7,v8,v9⟩=>
 M.pure (((⟨(IntKind.u16.wrap y3.1),v7⟩:PT),v8,v9)))
def xb(y3:Int×List Int×Int):Int×List PT×List Int×Int->M (M.Step (Int×List PT×List Int×Int) (M.Ex (List PT×List Int×Int) (List PT×List Int×Int))):=fun⟨v26,c27,v28,v29⟩=>
 cond (decide (v26 < y3.1))
  (M.bind (M.det (Zu v28 v29)) fun y31=>
  M.xg ((c27.length+List.length ([y31.1]))*32<=140737488355328) <|
  M.bind (M.det (zT y31.2.1 y31.2.2)) fun y34=>
  cond (!decide (y34.1=0))
   (M.pure (.done ((.ret (([]:List PT),y34.2.1,y34.2.2)))))
   (M.pure (.next (((IntKind.u64.wrap (v26+1)),(c27++[y31.1]),y34.2.1,y34.2.2)))))
  (M.pure (.done (.brk (c27,v28,v29))))
def xP(b_1:List Int)(bad_2:Int):M (List PT×List Int×Int):=
 M.bind (M.det (zK b_1 bad_2)) fun y3=>
 M.bind (M.loop (xb y3) (0,([]:List PT),y3.2.1,y3.2.2)) (M.exk (fun⟨c5,v6,v7⟩=>
 M.bind (M.det (xl c5)) fun v37=>
 cond (!v37)
  (M.bind (M.det (zI 4 v6 v7)) fun y40=>
  M.pure (([]:List PT),y40.1,y40.2))
  (M.pure (c5,v6,v7))))
def ye(y4:Int×List Int×Int):Int×List EV×List Int×Int->M (M.Step (Int×List EV×List Int×Int) (M.Ex (List EV×List Int×Int) (List EV×List Int×Int))):=fun⟨v52,out53,v54,v55⟩=>
 cond (decide (v52 < y4.1))
  (M.bind (M.det (ZM v54 v55)) fun y57=>
  M.bind (cond ((decide (0<=((IntKind.i64.wrap (((out53.length):Int) - 1))))))
   (M.bind (M.idx out53 ((IntKind.i64.wrap (((out53.length):Int) - 1)))) fun x61=>
   M.bind (M.det (wP x61.dot y57.1.dot)) fun v63=>
   M.pure (decide (0<=v63)))
   (M.pure false)) (fun v59=>
  M.bind (cond v59
   (M.bind (M.det (zI 4 y57.2.1 y57.2.2)) fun y68=>
   M.pure (y68.1,y68.2))
   (M.pure (y57.2.1,y57.2.2))) (fun⟨v65,v66⟩=>
  M.bind (M.det (zT v65 v66)) fun y70=>
  cond (!decide (y70.1=0))
   (M.pure (.done ((.ret (([]:List EV),y70.2.1,y70.2.2)))))
   (M.xg ((out53.length+List.length ([y57.1]))*80<=140737488355328) <|
   M.pure (.next (((IntKind.u64.wrap (v52+1)),(out53++[y57.1]),y70.2.1,y70.2.2)))))))
  (M.pure (.done (.brk (out53,v54,v55))))
def xd(most1:Int)(b_2:List Int)(bad_3:Int):M (List EV×List Int×Int):=
 M.bind (M.det (zK b_2 bad_3)) fun y4=>
 cond ((decide ((IntKind.u64.wrap (max most1 0)) < y4.1)))
  (M.bind (M.det (zI 3 y4.2.1 y4.2.2)) fun y7=>
  M.pure (([]:List EV),y7.1,y7.2))
  (M.bind (M.loop (ye y4) (0,([]:List EV),y4.2.1,y4.2.2)) (M.exk (fun⟨out9,v10,v11⟩=>
  M.pure (out9,v10,v11))))
def ue(b_1:List Int)(bad_2:Int):M (DL×List Int×Int):=
 M.bind (M.det (xP b_1 bad_2)) fun y3=>
 M.bind (M.det (xP y3.2.1 y3.2.2)) fun y5=>
 M.bind (M.det (xd 4096 y5.2.1 y5.2.2)) fun y7=>
 M.bind (M.det (uo (⟨y3.1,y5.1,y7.1⟩:DL))) fun v9=>
 M.bind (cond (!v9)
  (M.bind (M.det (zI 4 y7.2.1 y7.2.2)) fun y14=>
  M.pure (y14.1,y14.2))
  (M.pure (y7.2.1,y7.2.2))) (fun⟨v11,v12⟩=>
 M.bind (M.det (zT v11 v12)) fun y16=>
 cond (!decide (y16.1=0))
  (M.pure (((⟨([]:List PT),([]:List PT),([]:List EV)⟩:DL),y16.2.1,y16.2.2)))
  (M.pure ((⟨y3.1,y5.1,y7.1⟩:DL),y16.2.1,y16.2.2)))
def xe(b_1:List Int)(bad_2:Int)(kind_3:Int)(slot_4:Int)(dev_5:Int)(epoch_6:Int)(try_7:Int)(dev_8:Int)(n_9:Int)(kind_10:Int)(cid_11:Int)(field_12:Int)(text_13:ByteArray)(kills_14:List DT)(have_15:List PT)(front_16:List PT)(from_17:List PT)(to_18:List PT)(events_19:List EV):M (List Int×Int×Int×Int×Int×Int×Int×Int×Int×Int×Int×Int×ByteArray×List DT×List PT×List PT×List PT×List PT×List EV):=
 M.bind (M.det (zb kind_3 1)) fun v20=>
 M.bind (cond v20
  (M.bind (M.det (zV b_1 bad_2)) fun y26=>
  M.pure (y26.1,y26.2.1,y26.2.2))
  (M.pure (slot_4,b_1,bad_2))) (fun⟨v22,v23,v24⟩=>
 M.bind (M.det (zb kind_3 2)) fun v28=>
 M.bind (cond v28
  (M.bind (M.det (zK v23 v24)) fun y34=>
  M.pure (y34.1,y34.2.1,y34.2.2))
  (M.pure (try_7,v23,v24))) (fun⟨v30,v31,v32⟩=>
 M.bind (M.det (zb kind_3 4)) fun v36=>
 M.bind (cond v36
  (M.bind (M.det (yB 65535 v31 v32)) fun y42=>
  M.pure ((IntKind.u16.wrap y42.1),y42.2.1,y42.2.2))
  (M.pure (dev_5,v31,v32))) (fun⟨v38,v39,v40⟩=>
 M.bind (M.det (zb kind_3 8)) fun v44=>
 M.bind (cond v44
  (M.bind (M.det (zK v39 v40)) fun y50=>
  M.pure (y50.1,y50.2.1,y50.2.2))
  (M.pure (epoch_6,v39,v40))) (fun⟨v46,v47,v48⟩=>
 M.bind (M.det (zb kind_3 16)) fun v52=>
 M.bind (cond v52
  (M.bind (M.det (ZM v47 v48)) fun y64=>
  M.pure (y64.1.dot.dev,y64.1.dot.n,y64.1.kind,y64.1.cid,y64.1.field,y64.1.text,y64.1.kills,y64.2.1,y64.2.2))
  (M.pure (dev_8,n_9,kind_10,cid_11,field_12,text_13,kills_14,v47,v48))) (fun⟨v54,v55,v56,v57,v58,v59,v60,v61,v62⟩=>
 M.bind (M.det (zb kind_3 32)) fun v66=>
 M.bind (cond v66
  (M.bind (M.det (xP v61 v62)) fun y72=>
  M.pure (y72.1,y72.2.1,y72.2.2))
  (M.pure (have_15,v61,v62))) (fun⟨v68,v69,v70⟩=>
 M.bind (M.det (zb kind_3 64)) fun v74=>
 M.bind (cond v74
  (M.bind (M.det (ue v69 v70)) fun y82=>
  M.pure (y82.1.from_,y82.1.to_,y82.1.events,y82.2.1,y82.2.2))
  (M.pure (from_17,to_18,events_19,v69,v70))) (fun⟨v76,v77,v78,v79,v80⟩=>
 M.bind (M.det (zb kind_3 256)) fun v84=>
 M.bind (cond v84
  (M.bind (M.det (xd 4 v79 v80)) fun y90=>
  M.pure (y90.1,y90.2.1,y90.2.2))
  (M.pure (v78,v79,v80))) (fun⟨v86,v87,v88⟩=>
 M.bind (M.det (zb kind_3 128)) fun v92=>
 cond v92
  (M.bind (M.det (xP v87 v88)) fun y95=>
  M.pure (y95.2.1,y95.2.2,kind_3,v22,v38,v46,v30,v54,v55,v56,v57,v58,v59,v60,v68,y95.1,v76,v77,v86))
  (M.pure (v87,v88,kind_3,v22,v38,v46,v30,v54,v55,v56,v57,v58,v59,v60,v68,front_16,v76,v77,v86))))))))))
def yf(b_1:List Int)(bad_2:Int):M (Int×List Int×Int):=
 M.bind (M.det (yX b_1 bad_2)) fun y3=>
 M.bind (cond (decide (0 < y3.1))
  (M.bind (M.det (zI 4 y3.2.1 y3.2.2)) fun y8=>
  M.pure (y8.1,y8.2))
  (M.pure (y3.2.1,y3.2.2))) (fun⟨v5,v6⟩=>
 M.bind (M.det (zT v5 v6)) fun y10=>
 M.pure (y10.1,y10.2.1,y10.2.2))
def uF(b1:List Int):M (TEntry×Int):=
 M.bind (M.det (YM b1)) fun y2=>
 M.bind (M.det (zV y2.1 y2.2)) fun y4=>
 M.bind (cond (decide (y4.1=0))
  (M.pure true)
  (M.pure (decide (10 < y4.1)))) (fun v6=>
 M.bind (cond v6
  (M.bind (M.det (zI 4 y4.2.1 y4.2.2)) fun y11=>
  M.pure (y11.1,y11.2))
  (M.pure (y4.2.1,y4.2.2))) (fun⟨v8,v9⟩=>
 M.bind (M.det (xe v8 v9 y4.1 0 0 0 0 0 0 0 0 0 (⟨#[]⟩:ByteArray) ([]:List DT) ([]:List PT) ([]:List PT) ([]:List PT) ([]:List PT) ([]:List EV))) fun y13=>
 M.bind (M.det (yf y13.1 y13.2.1)) fun y15=>
 cond (!decide (y15.1=0))
  (M.pure (((⟨0,0,0,0,0,(⟨(⟨0,0⟩:DT),0,0,0,(⟨#[]⟩:ByteArray),([]:List DT)⟩:EV),([]:List PT),([]:List PT),(⟨([]:List PT),([]:List PT),([]:List EV)⟩:DL)⟩:TEntry),y15.1)))
  (M.bind (M.det (up ((⟨y13.2.2.1,y13.2.2.2.1,y13.2.2.2.2.1,y13.2.2.2.2.2.1,y13.2.2.2.2.2.2.1,(⟨(⟨y13.2.2.2.2.2.2.2.1,y13.2.2.2.2.2.2.2.2.1⟩:DT),y13.2.2.2.2.2.2.2.2.2.1,y13.2.2.2.2.2.2.2.2.2.2.1,y13.2.2.2.2.2.2.2.2.2.2.2.1,y13.2.2.2.2.2.2.2.2.2.2.2.2.1,y13.2.2.2.2.2.2.2.2.2.2.2.2.2.1⟩:EV),y13.2.2.2.2.2.2.2.2.2.2.2.2.2.2.1,y13.2.2.2.2.2.2.2.2.2.2.2.2.2.2.2.1,(⟨y13.2.2.2.2.2.2.2.2.2.2.2.2.2.2.2.2.1,y13.2.2.2.2.2.2.2.2.2.2.2.2.2.2.2.2.2.1,y13.2.2.2.2.2.2.2.2.2.2.2.2.2.2.2.2.2.2⟩:DL)⟩:TEntry)))) fun v18=>
  cond (!v18)
   (M.pure (((⟨0,0,0,0,0,(⟨(⟨0,0⟩:DT),0,0,0,(⟨#[]⟩:ByteArray),([]:List DT)⟩:EV),([]:List PT),([]:List PT),(⟨([]:List PT),([]:List PT),([]:List EV)⟩:DL)⟩:TEntry),4)))
   (M.pure (((⟨y13.2.2.1,y13.2.2.2.1,y13.2.2.2.2.1,y13.2.2.2.2.2.1,y13.2.2.2.2.2.2.1,(⟨(⟨y13.2.2.2.2.2.2.2.1,y13.2.2.2.2.2.2.2.2.1⟩:DT),y13.2.2.2.2.2.2.2.2.2.1,y13.2.2.2.2.2.2.2.2.2.2.1,y13.2.2.2.2.2.2.2.2.2.2.2.1,y13.2.2.2.2.2.2.2.2.2.2.2.2.1,y13.2.2.2.2.2.2.2.2.2.2.2.2.2.1⟩:EV),y13.2.2.2.2.2.2.2.2.2.2.2.2.2.2.1,y13.2.2.2.2.2.2.2.2.2.2.2.2.2.2.2.1,(⟨y13.2.2.2.2.2.2.2.2.2.2.2.2.2.2.2.2.1,y13.2.2.2.2.2.2.2.2.2.2.2.2.2.2.2.2.2.1,y13.2.2.2.2.2.2.2.2.2.2.2.2.2.2.2.2.2.2⟩:DL)⟩:TEntry),0))))))
def WJ(a1:List EV)(b2:List EV):Int->M (M.Step Int (M.Ex Unit Bool)):=fun i21=>
 cond ((decide (i21 < (a1.length:Int))))
  (M.bind (M.idx a1 i21) fun x23=>
  M.bind (M.idx b2 i21) fun x25=>
  M.bind (M.det (Yi x23 x25)) fun v27=>
  cond (!v27)
   (M.pure (.done (.ret false)))
   (M.pure (.next (IntKind.i64.wrap (i21+1)))))
  (M.pure (.done (.brk ())))
def JB(a1:List EV)(b2:List EV):M Bool:=
 cond ((!decide ((a1.length:Int)=(b2.length:Int))))
  (M.pure false)
  (M.bind (M.loop (WJ a1 b2) 0) (M.exk (fun _=>
  M.pure true)))
def VT(a1:List PT)(b2:List PT):M Bool:=
 M.bind (M.det (Zt a1)) fun v3=>
 M.bind (M.det (Zt b2)) fun v5=>
 M.bind (M.det (Wb v3 v5)) fun v7=>
 M.pure v7
def jL(a1:DL)(b2:DL):M Bool:=
 M.bind (M.bind (M.det (VT a1.from_ b2.from_)) fun v4=>
 cond v4
  (M.bind (M.det (VT a1.to_ b2.to_)) fun v7=>
  cond v7
   (M.bind (M.det (JB a1.events b2.events)) fun v10=>
   M.pure v10)
   (M.pure false))
  (M.pure false)) (fun v3=>
 M.pure v3)
def jM(a1:TEntry)(b2:TEntry):M Bool:=
 M.bind (cond (decide (a1.kind=b2.kind))
  (cond (decide (a1.slot=b2.slot))
   (cond (decide (a1.dev=b2.dev))
    (cond (decide (a1.epoch=b2.epoch))
     (cond (decide (a1.try_=b2.try_))
      (M.bind (M.det (Yi a1.event b2.event)) fun v9=>
      cond v9
       (M.bind (M.det (Wb a1.have_ b2.have_)) fun v12=>
       cond v12
        (M.bind (M.det (Wb a1.front b2.front)) fun v15=>
        cond v15
         (M.bind (M.det (jL a1.delta b2.delta)) fun v18=>
         M.pure v18)
         (M.pure false))
        (M.pure false))
       (M.pure false))
      (M.pure false))
     (M.pure false))
    (M.pure false))
   (M.pure false))
  (M.pure false)) (fun v3=>
 M.pure v3)
def Yq(l2:List EV):Int->M (M.Step Int (M.Ex Unit Bool)):=fun i_64=>
 cond ((decide (i_64 < (l2.length:Int))))
  (M.bind (M.bind (M.idx l2 i_64) fun x67=>
  M.bind (M.det (Yg x67)) fun v69=>
  cond (!v69)
   (M.pure true)
   (cond (decide (0 < i_64))
    (M.bind (M.idx l2 (IntKind.i64.wrap (i_64 - 1))) fun x73=>
    M.bind (M.idx l2 i_64) fun x75=>
    M.bind (M.det (uN x73.dot x75.dot)) fun v77=>
    cond (decide (0<=v77))
     (M.pure true)
     (M.bind (M.idx l2 i_64) fun x80=>
     cond (decide (x80.kind=1))
      (M.bind (M.idx l2 i_64) fun x83=>
      M.bind (M.det (Yn l2 x83.dot)) fun v85=>
      M.pure v85)
      (M.pure false)))
    (M.bind (M.idx l2 i_64) fun x87=>
    cond (decide (x87.kind=1))
     (M.bind (M.idx l2 i_64) fun x90=>
     M.bind (M.det (Yn l2 x90.dot)) fun v92=>
     M.pure v92)
     (M.pure false)))) (fun v66=>
  cond v66
   (M.pure (.done (.ret false)))
   (M.pure (.next (IntKind.i64.wrap (i_64+1))))))
  (M.pure (.done (.brk ())))
def jN(c1:List PT)(l2:List EV):M Bool:=
 M.bind (M.loop (Yq l2) 0) (M.exk (fun _=>
 M.bind (M.bind (M.det (xB c1)) fun v96=>
 cond v96
  (M.bind (M.det (VS l2)) fun v99=>
  M.bind (M.det (VR v99 c1)) fun v101=>
  M.pure ((decide ((v101.length:Int)=0))))
  (M.pure false)) (fun v95=>
 M.pure v95)))
def jO(s1:TState):M Bool:=
 M.bind (cond (decide (2 < s1.phase))
  (M.pure true)
  (cond (decide (281474976710655 < s1.epoch))
   (M.pure true)
   (cond (decide (281474976710655 < s1.try_))
    (M.pure true)
    (cond (decide (281474976710655 < s1.now))
     (M.pure true)
     (M.bind (M.det (xB s1.had)) fun v7=>
     cond (!v7)
      (M.pure true)
      (cond (decide (s1.phase=2))
       (cond (decide (s1.dev=0))
        (M.pure true)
        (M.pure (decide (s1.epoch=0))))
       (M.pure false))))))) (fun v2=>
 cond v2
  (M.pure false)
  (M.bind (M.det (jN s1.ctx s1.all)) fun v13=>
  M.pure v13))
def uq(e1:EV):M EV:=
 M.bind (M.det (yL e1.kills)) fun v2=>
 M.pure (⟨e1.dot,e1.kind,e1.cid,e1.field,e1.text,v2⟩:EV)
def YN(e1:EV)(nl2:Bool)(m3:List (DT×EV)):M (Bool×(List (DT×EV))):=
 M.bind (cond nl2
  (M.pure ([]:List (DT×EV)))
  (M.pure m3)) (fun v4=>
 M.bind (M.det (uq e1)) fun v9=>
 M.pure (false,(AL.set v4 e1.dot v9)))
def yD(l2:List EV):Int×Bool×(List (DT×EV))×Bool×(List (DT×EV))->M (M.Step (Int×Bool×(List (DT×EV))×Bool×(List (DT×EV))) (M.Ex (Bool×(List (DT×EV))×Bool×(List (DT×EV))) (Unit⊕(List PT×Bool×(List (DT×EV))×Bool×(List (DT×EV)))))):=fun⟨v72,nl73,v74,nl75,v76⟩=>
 cond ((decide (v72 < (l2.length:Int))))
  (M.bind (M.bind (M.idx l2 v72) fun x82=>
  M.bind (M.bind (M.det (xx x82)) fun v85=>
  cond (!v85)
   (M.pure true)
   (cond (decide (0 < v72))
    (M.bind (M.idx l2 (IntKind.i64.wrap (v72 - 1))) fun x89=>
    M.bind (M.det (wP x89.dot x82.dot)) fun v91=>
    cond (decide (0<=v91))
     (M.pure true)
     (cond (decide (x82.kind=1))
      (M.bind (M.det (vK l2 x82.dot)) fun v95=>
      M.pure v95)
      (M.pure false)))
    (cond (decide (x82.kind=1))
     (M.bind (M.det (vK l2 x82.dot)) fun v98=>
     M.pure v98)
     (M.pure false)))) (fun v84=>
  cond v84
   (M.pure (.ret ((.done ((.ret (.inl ())))))))
   (cond (decide (x82.kind=1))
    (M.bind (M.det (YN x82 nl75 v76)) fun y102=>
    M.pure (.brk (nl73,v74,y102.1,y102.2)))
    (M.bind (M.det (YN x82 nl73 v74)) fun y104=>
    M.pure (.brk (y104.1,y104.2,nl75,v76)))))) (M.exk (fun⟨nl78,v79,nl80,v81⟩=>
  M.pure (.next (((IntKind.i64.wrap (v72+1)),nl78,v79,nl80,v81))))))
  (M.pure (.done (.brk (nl73,v74,nl75,v76))))
def ZN(c1:List PT)(l2:List EV):M (Unit⊕(List PT×Bool×(List (DT×EV))×Bool×(List (DT×EV)))):=
 M.bind (M.det (Ye c1)) fun v3=>
 M.bind (M.loop (yD l2) ((0,true,([]:List (DT×EV)),true,([]:List (DT×EV))))) (M.exk (fun⟨nl5,v6,nl7,v8⟩=>
 M.bind (M.bind (M.det (xl c1)) fun v107=>
 cond (!v107)
  (M.pure true)
  (M.bind (M.det (YK l2)) fun v110=>
  M.bind (M.det (YJ v110 c1)) fun v112=>
  M.pure ((decide (0 < ((v112.length):Int)))))) (fun v106=>
 cond v106
  (M.pure (.inl ()))
  (M.pure (.inr (v3,nl7,v8,nl5,v6))))))
def Wq(limit1:Int):M (Int×Int):=
 M.pure ((min limit1 281474976710655),0)
def UM :M (List PT×Bool×(List (DT×EV))×Bool×(List (DT×EV))):=
 M.pure ((([]:List PT),true,([]:List (DT×EV)),true,([]:List (DT×EV))))
def Yr(slot1:Int)(limit2:Int):M (Int×Int×Int×Int×Int×Int×Int×Int×List PT×Bool×(List (DT×EV))×Bool×(List (DT×EV))):=
 M.bind (M.det (Wq limit2)) fun y3=>
 M.bind (M.det (UM)) fun y5=>
 M.pure (slot1,0,0,0,0,limit2,y3.1,y3.2,y5.1,y5.2.1,y5.2.2.1,y5.2.2.2.1,y5.2.2.2.2)
def xu(n1:Int)(limit_2:Int)(now_3:Int):M (Int×Int):=
 M.pure ((limit_2,(max now_3 (min n1 281474976710655))))
def Zx(s1:TState)(limit2:Int):M (Unit⊕(Int×Int×Int×Int×Int×Int×List PT×Int×Int×List PT×Bool×(List (DT×EV))×Bool×(List (DT×EV)))):=
 M.bind (cond (decide (2 < s1.phase))
  (M.pure true)
  (cond ((decide (281474976710655 < (max (max s1.epoch s1.try_) s1.now))))
   (M.pure true)
   (M.bind (M.det (xl s1.had)) fun v6=>
   cond (!v6)
    (M.pure true)
    (cond (decide (s1.phase=2))
     (cond (decide (s1.dev=0))
      (M.pure true)
      (M.pure (decide (s1.epoch=0))))
     (M.pure false))))) (fun v3=>
 cond v3
  (M.pure (.inl ()))
  (M.bind (M.det (ZN s1.ctx s1.all)) fun y12=>
  M.sum y12 (fun z14=>
   M.pure (.inl ())) (fun z15=>
   M.bind (M.det (Yr s1.slot limit2)) fun y16=>
   M.bind (M.det (Ye s1.had)) fun v18=>
   M.bind (M.det (xu s1.now y16.2.2.2.2.2.2.1 y16.2.2.2.2.2.2.2.1)) fun y20=>
   M.pure (.inr (y16.1,s1.phase,s1.dev,s1.epoch,s1.try_,y16.2.2.2.2.2.1,v18,y20.1,y20.2,z15.1,z15.2.1,z15.2.2.1,z15.2.2.2.1,z15.2.2.2.2)))))
def ur(s1:TState):M Bool:=
 M.bind (M.bind (M.det (Zx s1 0)) fun y3=>
 M.sum y3 (fun z5=>
  M.pure (1:Int)) (fun z6=>
  M.pure (0:Int))) (fun e2=>
 M.bind (cond (decide (e2=0))
  (M.pure ((decide ((s1.all.length:Int)<=4096))))
  (M.pure false)) (fun v7=>
 M.pure v7))
def vg(s1:TState):Int×List Int->M (M.Step (Int×List Int) (List Int)):=fun⟨v22,v23⟩=>
 cond ((decide (v22 < ((List.length ([(IntKind.u64.wrap s1.dev),s1.epoch,s1.try_,s1.now]):Int)))))
  (M.bind (M.idx ([(IntKind.u64.wrap s1.dev),s1.epoch,s1.try_,s1.now]) v22) fun x25=>
  M.bind (M.det (zP x25 v23)) fun y27=>
  M.pure (.next (((IntKind.i64.wrap (v22+1)),y27))))
  (M.pure (.done v23))
def vu(s1:TState):M (List Int×Int):=
 M.bind (M.det (ur s1)) fun v2=>
 cond (!v2)
  (M.pure (([]:List Int),1))
  (M.bind (M.det (zn s1.slot ([]:List Int))) fun y5=>
  M.bind (M.det (zn s1.phase y5)) fun y7=>
  M.bind (M.loop (vg s1) (0,y7)) (fun v9=>
  M.bind (M.det (yK s1.had v9)) fun y29=>
  M.bind (M.det (yK s1.ctx y29)) fun y31=>
  M.bind (M.det (yx s1.all y31)) fun y33=>
  M.bind (M.det (yj y33)) fun y35=>
  M.pure (y35.1,0)))
def ZO(b1:List Int):M (TState×Int):=
 M.bind (M.det (YM b1)) fun y2=>
 M.bind (M.det (zV y2.1 y2.2)) fun y4=>
 M.bind (M.det (zV y4.2.1 y4.2.2)) fun y6=>
 M.bind (M.det (yB 65535 y6.2.1 y6.2.2)) fun y8=>
 M.bind (M.det (zK y8.2.1 y8.2.2)) fun y10=>
 M.bind (M.det (zK y10.2.1 y10.2.2)) fun y12=>
 M.bind (M.det (zK y12.2.1 y12.2.2)) fun y14=>
 M.bind (M.det (xP y14.2.1 y14.2.2)) fun y16=>
 M.bind (M.det (xP y16.2.1 y16.2.2)) fun y18=>
 M.bind (M.det (xd 4096 y18.2.1 y18.2.2)) fun y20=>
 M.bind (M.det (yf y20.2.1 y20.2.2)) fun y22=>
 cond (!decide (y22.1=0))
  (M.pure (((⟨0,0,0,0,0,0,([]:List PT),([]:List PT),([]:List EV)⟩:TState),y22.1)))
  (M.bind (M.det (ur (⟨y4.1,y6.1,(IntKind.u16.wrap y8.1),y10.1,y12.1,y14.1,y16.1,y18.1,y20.1⟩:TState))) fun v25=>
  cond (!v25)
   (M.pure (((⟨0,0,0,0,0,0,([]:List PT),([]:List PT),([]:List EV)⟩:TState),4)))
   (M.pure (((⟨y4.1,y6.1,(IntKind.u16.wrap y8.1),y10.1,y12.1,y14.1,y16.1,y18.1,y20.1⟩:TState),0))))
def jP(a1:TState)(b2:TState):M Bool:=
 M.bind (cond (!decide (a1.slot=b2.slot))
  (M.pure true)
  (cond (!decide (a1.phase=b2.phase))
   (M.pure true)
   (cond (!decide (a1.dev=b2.dev))
    (M.pure true)
    (cond (!decide (a1.epoch=b2.epoch))
     (M.pure true)
     (cond (!decide (a1.try_=b2.try_))
      (M.pure true)
      (M.pure (!decide (a1.now=b2.now)))))))) (fun v3=>
 cond v3
  (M.pure false)
  (M.bind (M.bind (M.det (Zt b2.had)) fun v11=>
  M.bind (M.det (Wb a1.had v11)) fun v13=>
  cond v13
   (M.bind (M.det (Zt b2.ctx)) fun v16=>
   M.bind (M.det (Wb a1.ctx v16)) fun v18=>
   cond v18
    (M.bind (M.det (JB a1.all b2.all)) fun v21=>
    M.pure v21)
    (M.pure false))
   (M.pure false)) (fun v10=>
  M.pure v10)))
def uf(x1:TEntry)(s2:TState):M Bool:=
 M.bind (M.bind (M.det (Zm x1)) fun v4=>
 cond (!v4)
  (M.pure true)
  (M.bind (M.det (QU s2)) fun v7=>
  M.pure (!v7))) (fun v3=>
 cond v3
  (M.bind (M.det (XY)) fun v10=>
  M.pure v10)
  (M.bind (M.det (jJ x1)) fun v12=>
  M.bind (cond v12
   (M.bind (M.det (yb x1)) fun v15=>
   M.bind (M.det (uF v15.1)) fun v17=>
   M.bind (cond (!decide (v15.2=0))
    (M.pure true)
    (cond (!decide (v17.2=0))
     (M.pure true)
     (M.bind (M.det (jM x1 v17.1)) fun v22=>
     M.pure (!v22)))) (fun v19=>
   cond v19
    (M.pure (.ret false))
    (M.pure (.brk ()))))
   (M.pure (.brk ()))) (M.exk (fun _=>
  M.bind (M.det (jO s2)) fun v25=>
  M.bind (cond v25
   (M.bind (M.det (vu s2)) fun v28=>
   M.bind (M.det (ZO v28.1)) fun v30=>
   M.bind (cond (!decide (v28.2=0))
    (M.pure true)
    (cond (!decide (v30.2=0))
     (M.pure true)
     (M.bind (M.det (jP v30.1 s2)) fun v35=>
     M.pure (!v35)))) (fun v32=>
   cond v32
    (M.pure (.ret false))
    (M.pure (.brk ()))))
   (M.pure (.brk ()))) (M.exk (fun _=>
  M.bind (M.det (XY)) fun v38=>
  M.pure v38))))))
end Go.Ep
namespace Go.Proofs
open Go.Shelf
def Tryz.pdq147_ren : Go.Shelf.Ren:=⟨fun | 14=>147 | 20=>159 | 21=>160 | 22=>161 | 23=>162 | 24=>163 | 25=>164 | 26=>165 | 27=>166 | 46=>182 | 47=>183 | 48=>184 | 49=>185 | 50=>186 | 15=>148 | 57=>199 | 28=>167 | 29=>168 | n=>n,fun | 24=>25 | 22=>26 | 3=>3 | 25=>103 | 4=>4 | 0=>0 | 46=>194 | 45=>193 | 50=>189 | 66=>208 | 39=>156 | 55=>23 | 70=>211 | 76=>221 | 77=>222 | 53=>200 | 5=>5 | 9=>9 | n=>n,fun | n=>n⟩
theorem Tryz.pdq147 : Go.Proofs.SlLaysF0.n14 Tryz.prog Tryz.pdq147_ren:={
 mixed:=by kernel_rfl
 f14:=⟨Tryz.f147.name,by decide,Tryz.func147.trans (congrArg some (by kernel_rfl))⟩
 f15:=Tryz.func148.trans (congrArg some (by kernel_rfl))
 f20:=⟨Tryz.f159.name,by decide,Tryz.func159.trans (congrArg some (by kernel_rfl))⟩
 f21:=⟨Tryz.f160.name,by decide,Tryz.func160.trans (congrArg some (by kernel_rfl))⟩
 f22:=⟨Tryz.f161.name,by decide,Tryz.func161.trans (congrArg some (by kernel_rfl))⟩
 f23:=⟨Tryz.f162.name,by decide,Tryz.func162.trans (congrArg some (by kernel_rfl))⟩
 f24:=⟨Tryz.f163.name,by decide,Tryz.func163.trans (congrArg some (by kernel_rfl))⟩
 f25:=⟨Tryz.f164.name,by decide,Tryz.func164.trans (congrArg some (by kernel_rfl))⟩
 f26:=⟨Tryz.f165.name,by decide,Tryz.func165.trans (congrArg some (by kernel_rfl))⟩
 f27:=⟨Tryz.f166.name,by decide,Tryz.func166.trans (congrArg some (by kernel_rfl))⟩
 f28:=Tryz.func167.trans (congrArg some (by kernel_rfl))
 f29:=Tryz.func168.trans (congrArg some (by kernel_rfl))
 f46:=⟨Tryz.f182.name,by decide,Tryz.func182.trans (congrArg some (by kernel_rfl))⟩
 f47:=Tryz.func183.trans (congrArg some (by kernel_rfl))
 f48:=Tryz.func184.trans (congrArg some (by kernel_rfl))
 f49:=⟨Tryz.f185.name,by decide,Tryz.func185.trans (congrArg some (by kernel_rfl))⟩
 f50:=⟨Tryz.f186.name,by decide,Tryz.func186.trans (congrArg some (by kernel_rfl))⟩
 f57:=⟨Tryz.f199.name,by decide,Tryz.func199.trans (congrArg some (by kernel_rfl))⟩
 t0:=Tryz.underlying0
 a0:=Tryz.isAgg0
 z0:=Tryz.sizeOf0
 v0:=Tryz.zeroValue0
 t3:=Tryz.underlying3
 a3:=Tryz.isAgg3
 z3:=Tryz.sizeOf3
 v3:=Tryz.zeroValue3
 t4:=Tryz.underlying4
 a4:=Tryz.isAgg4
 z4:=Tryz.sizeOf4
 v4:=Tryz.zeroValue4
 t5:=Tryz.underlying5
 a5:=Tryz.isAgg5
 z5:=Tryz.sizeOf5
 v5:=Tryz.zeroValue5
 t9:=Tryz.underlying9
 a9:=Tryz.isAgg9
 z9:=Tryz.sizeOf9
 v9:=Tryz.zeroValue9
 t22:=Tryz.underlying26
 a22:=Tryz.isAgg26
 z22:=Tryz.sizeOf26
 v22:=Tryz.zeroValue26
 t25:=Tryz.underlying103
 a25:=Tryz.isAgg103
 z25:=Tryz.sizeOf103
 v25:=Tryz.zeroValue103
 t39:=Tryz.underlying156
 a39:=Tryz.isAgg156
 z39:=Tryz.sizeOf156
 v39:=Tryz.zeroValue156
 t45:=Tryz.underlying193
 a45:=Tryz.isAgg193
 z45:=Tryz.sizeOf193
 v45:=Tryz.zeroValue193
 t46:=Tryz.underlying194
 a46:=Tryz.isAgg194
 z46:=Tryz.sizeOf194
 v46:=Tryz.zeroValue194
 t50:=Tryz.underlying189
 a50:=Tryz.isAgg189
 z50:=Tryz.sizeOf189
 v50:=Tryz.zeroValue189
 t53:=Tryz.underlying200
 a53:=Tryz.isAgg200
 z53:=Tryz.sizeOf200
 v53:=Tryz.zeroValue200
 t55:=Tryz.underlying23
 a55:=Tryz.isAgg23
 z55:=Tryz.sizeOf23
 v55:=Tryz.zeroValue23
 t66:=Tryz.underlying208
 a66:=Tryz.isAgg208
 z66:=Tryz.sizeOf208
 v66:=Tryz.zeroValue208
 t70:=Tryz.underlying211
 a70:=Tryz.isAgg211
 z70:=Tryz.sizeOf211
 v70:=Tryz.zeroValue211
 t76:=Tryz.underlying221
 a76:=Tryz.isAgg221
 z76:=Tryz.sizeOf221
 v76:=Tryz.zeroValue221
 t77:=Tryz.underlying222
 a77:=Tryz.isAgg222
 z77:=Tryz.sizeOf222
 v77:=Tryz.zeroValue222 }
def Tryz.pdq151_ren : Go.Shelf.Ren:=⟨fun | 14=>151 | 20=>170 | 21=>171 | 22=>172 | 23=>173 | 24=>174 | 25=>175 | 26=>176 | 27=>177 | 46=>195 | 47=>183 | 48=>184 | 49=>196 | 50=>197 | 15=>148 | 57=>203 | 28=>167 | 29=>168 | n=>n,fun | 24=>94 | 22=>29 | 3=>3 | 25=>168 | 4=>4 | 0=>0 | 46=>194 | 45=>193 | 50=>189 | 66=>208 | 39=>156 | 55=>23 | 70=>211 | 76=>221 | 77=>222 | 53=>200 | 5=>5 | 9=>9 | n=>n,fun | n=>n⟩
theorem Tryz.pdq151 : Go.Proofs.SlLaysF0.n14 Tryz.prog Tryz.pdq151_ren:={
 mixed:=by kernel_rfl
 f14:=⟨Tryz.f151.name,by decide,Tryz.func151.trans (congrArg some (by kernel_rfl))⟩
 f15:=Tryz.func148.trans (congrArg some (by kernel_rfl))
 f20:=⟨Tryz.f170.name,by decide,Tryz.func170.trans (congrArg some (by kernel_rfl))⟩
 f21:=⟨Tryz.f171.name,by decide,Tryz.func171.trans (congrArg some (by kernel_rfl))⟩
 f22:=⟨Tryz.f172.name,by decide,Tryz.func172.trans (congrArg some (by kernel_rfl))⟩
 f23:=⟨Tryz.f173.name,by decide,Tryz.func173.trans (congrArg some (by kernel_rfl))⟩
 f24:=⟨Tryz.f174.name,by decide,Tryz.func174.trans (congrArg some (by kernel_rfl))⟩
 f25:=⟨Tryz.f175.name,by decide,Tryz.func175.trans (congrArg some (by kernel_rfl))⟩
 f26:=⟨Tryz.f176.name,by decide,Tryz.func176.trans (congrArg some (by kernel_rfl))⟩
 f27:=⟨Tryz.f177.name,by decide,Tryz.func177.trans (congrArg some (by kernel_rfl))⟩
 f28:=Tryz.func167.trans (congrArg some (by kernel_rfl))
 f29:=Tryz.func168.trans (congrArg some (by kernel_rfl))
 f46:=⟨Tryz.f195.name,by decide,Tryz.func195.trans (congrArg some (by kernel_rfl))⟩
 f47:=Tryz.func183.trans (congrArg some (by kernel_rfl))
 f48:=Tryz.func184.trans (congrArg some (by kernel_rfl))
 f49:=⟨Tryz.f196.name,by decide,Tryz.func196.trans (congrArg some (by kernel_rfl))⟩
 f50:=⟨Tryz.f197.name,by decide,Tryz.func197.trans (congrArg some (by kernel_rfl))⟩
 f57:=⟨Tryz.f203.name,by decide,Tryz.func203.trans (congrArg some (by kernel_rfl))⟩
 t0:=Tryz.underlying0
 a0:=Tryz.isAgg0
 z0:=Tryz.sizeOf0
 v0:=Tryz.zeroValue0
 t3:=Tryz.underlying3
 a3:=Tryz.isAgg3
 z3:=Tryz.sizeOf3
 v3:=Tryz.zeroValue3
 t4:=Tryz.underlying4
 a4:=Tryz.isAgg4
 z4:=Tryz.sizeOf4
 v4:=Tryz.zeroValue4
 t5:=Tryz.underlying5
 a5:=Tryz.isAgg5
 z5:=Tryz.sizeOf5
 v5:=Tryz.zeroValue5
 t9:=Tryz.underlying9
 a9:=Tryz.isAgg9
 z9:=Tryz.sizeOf9
 v9:=Tryz.zeroValue9
 t22:=Tryz.underlying29
 a22:=Tryz.isAgg29
 z22:=Tryz.sizeOf29
 v22:=Tryz.zeroValue29
 t25:=Tryz.underlying168
 a25:=Tryz.isAgg168
 z25:=Tryz.sizeOf168
 v25:=Tryz.zeroValue168
 t39:=Tryz.underlying156
 a39:=Tryz.isAgg156
 z39:=Tryz.sizeOf156
 v39:=Tryz.zeroValue156
 t45:=Tryz.underlying193
 a45:=Tryz.isAgg193
 z45:=Tryz.sizeOf193
 v45:=Tryz.zeroValue193
 t46:=Tryz.underlying194
 a46:=Tryz.isAgg194
 z46:=Tryz.sizeOf194
 v46:=Tryz.zeroValue194
 t50:=Tryz.underlying189
 a50:=Tryz.isAgg189
 z50:=Tryz.sizeOf189
 v50:=Tryz.zeroValue189
 t53:=Tryz.underlying200
 a53:=Tryz.isAgg200
 z53:=Tryz.sizeOf200
 v53:=Tryz.zeroValue200
 t55:=Tryz.underlying23
 a55:=Tryz.isAgg23
 z55:=Tryz.sizeOf23
 v55:=Tryz.zeroValue23
 t66:=Tryz.underlying208
 a66:=Tryz.isAgg208
 z66:=Tryz.sizeOf208
 v66:=Tryz.zeroValue208
 t70:=Tryz.underlying211
 a70:=Tryz.isAgg211
 z70:=Tryz.sizeOf211
 v70:=Tryz.zeroValue211
 t76:=Tryz.underlying221
 a76:=Tryz.isAgg221
 z76:=Tryz.sizeOf221
 v76:=Tryz.zeroValue221
 t77:=Tryz.underlying222
 a77:=Tryz.isAgg222
 z77:=Tryz.sizeOf222
 v77:=Tryz.zeroValue222 }
def Tryz.pdq169_ren : Go.Shelf.Ren:=⟨fun | 14=>169 | 20=>187 | 21=>188 | 22=>189 | 23=>190 | 24=>191 | 25=>192 | 26=>193 | 27=>194 | 46=>200 | 47=>183 | 48=>184 | 49=>201 | 50=>202 | 15=>148 | 57=>204 | 28=>167 | 29=>168 | n=>n,fun | 24=>117 | 22=>92 | 3=>3 | 25=>184 | 4=>4 | 0=>0 | 46=>194 | 45=>193 | 50=>189 | 66=>208 | 39=>156 | 55=>23 | 70=>211 | 76=>221 | 77=>222 | 53=>200 | 5=>5 | 9=>9 | n=>n,fun | n=>n⟩
theorem Tryz.pdq169 : Go.Proofs.SlLaysF0.n14 Tryz.prog Tryz.pdq169_ren:={
 mixed:=by kernel_rfl
 f14:=⟨Tryz.f169.name,by decide,Tryz.func169.trans (congrArg some (by kernel_rfl))⟩
 f15:=Tryz.func148.trans (congrArg some (by kernel_rfl))
 f20:=⟨Tryz.f187.name,by decide,Tryz.func187.trans (congrArg some (by kernel_rfl))⟩
 f21:=⟨Tryz.f188.name,by decide,Tryz.func188.trans (congrArg some (by kernel_rfl))⟩
 f22:=⟨Tryz.f189.name,by decide,Tryz.func189.trans (congrArg some (by kernel_rfl))⟩
 f23:=⟨Tryz.f190.name,by decide,Tryz.func190.trans (congrArg some (by kernel_rfl))⟩
 f24:=⟨Tryz.f191.name,by decide,Tryz.func191.trans (congrArg some (by kernel_rfl))⟩
 f25:=⟨Tryz.f192.name,by decide,Tryz.func192.trans (congrArg some (by kernel_rfl))⟩
 f26:=⟨Tryz.f193.name,by decide,Tryz.func193.trans (congrArg some (by kernel_rfl))⟩
 f27:=⟨Tryz.f194.name,by decide,Tryz.func194.trans (congrArg some (by kernel_rfl))⟩
 f28:=Tryz.func167.trans (congrArg some (by kernel_rfl))
 f29:=Tryz.func168.trans (congrArg some (by kernel_rfl))
 f46:=⟨Tryz.f200.name,by decide,Tryz.func200.trans (congrArg some (by kernel_rfl))⟩
 f47:=Tryz.func183.trans (congrArg some (by kernel_rfl))
 f48:=Tryz.func184.trans (congrArg some (by kernel_rfl))
 f49:=⟨Tryz.f201.name,by decide,Tryz.func201.trans (congrArg some (by kernel_rfl))⟩
 f50:=⟨Tryz.f202.name,by decide,Tryz.func202.trans (congrArg some (by kernel_rfl))⟩
 f57:=⟨Tryz.f204.name,by decide,Tryz.func204.trans (congrArg some (by kernel_rfl))⟩
 t0:=Tryz.underlying0
 a0:=Tryz.isAgg0
 z0:=Tryz.sizeOf0
 v0:=Tryz.zeroValue0
 t3:=Tryz.underlying3
 a3:=Tryz.isAgg3
 z3:=Tryz.sizeOf3
 v3:=Tryz.zeroValue3
 t4:=Tryz.underlying4
 a4:=Tryz.isAgg4
 z4:=Tryz.sizeOf4
 v4:=Tryz.zeroValue4
 t5:=Tryz.underlying5
 a5:=Tryz.isAgg5
 z5:=Tryz.sizeOf5
 v5:=Tryz.zeroValue5
 t9:=Tryz.underlying9
 a9:=Tryz.isAgg9
 z9:=Tryz.sizeOf9
 v9:=Tryz.zeroValue9
 t22:=Tryz.underlying92
 a22:=Tryz.isAgg92
 z22:=Tryz.sizeOf92
 v22:=Tryz.zeroValue92
 t25:=Tryz.underlying184
 a25:=Tryz.isAgg184
 z25:=Tryz.sizeOf184
 v25:=Tryz.zeroValue184
 t39:=Tryz.underlying156
 a39:=Tryz.isAgg156
 z39:=Tryz.sizeOf156
 v39:=Tryz.zeroValue156
 t45:=Tryz.underlying193
 a45:=Tryz.isAgg193
 z45:=Tryz.sizeOf193
 v45:=Tryz.zeroValue193
 t46:=Tryz.underlying194
 a46:=Tryz.isAgg194
 z46:=Tryz.sizeOf194
 v46:=Tryz.zeroValue194
 t50:=Tryz.underlying189
 a50:=Tryz.isAgg189
 z50:=Tryz.sizeOf189
 v50:=Tryz.zeroValue189
 t53:=Tryz.underlying200
 a53:=Tryz.isAgg200
 z53:=Tryz.sizeOf200
 v53:=Tryz.zeroValue200
 t55:=Tryz.underlying23
 a55:=Tryz.isAgg23
 z55:=Tryz.sizeOf23
 v55:=Tryz.zeroValue23
 t66:=Tryz.underlying208
 a66:=Tryz.isAgg208
 z66:=Tryz.sizeOf208
 v66:=Tryz.zeroValue208
 t70:=Tryz.underlying211
 a70:=Tryz.isAgg211
 z70:=Tryz.sizeOf211
 v70:=Tryz.zeroValue211
 t76:=Tryz.underlying221
 a76:=Tryz.isAgg221
 z76:=Tryz.sizeOf221
 v76:=Tryz.zeroValue221
 t77:=Tryz.underlying222
 a77:=Tryz.isAgg222
 z77:=Tryz.sizeOf222
 v77:=Tryz.zeroValue222 }
def Tryz.bits148_ren : Go.Shelf.Ren:=⟨fun | 15=>148 | 28=>167 | 29=>168 | n=>n,fun | 39=>156 | 3=>3 | 53=>200 | 55=>23 | 4=>4 | 5=>5 | 9=>9 | n=>n,fun | n=>n⟩
theorem Tryz.bits148 : Go.Proofs.SlLaysF0.n15 Tryz.prog Tryz.bits148_ren:={
 mixed:=by kernel_rfl
 f15:=Tryz.func148.trans (congrArg some (by kernel_rfl))
 f28:=Tryz.func167.trans (congrArg some (by kernel_rfl))
 f29:=Tryz.func168.trans (congrArg some (by kernel_rfl))
 t3:=Tryz.underlying3
 a3:=Tryz.isAgg3
 z3:=Tryz.sizeOf3
 v3:=Tryz.zeroValue3
 t4:=Tryz.underlying4
 a4:=Tryz.isAgg4
 z4:=Tryz.sizeOf4
 v4:=Tryz.zeroValue4
 t5:=Tryz.underlying5
 a5:=Tryz.isAgg5
 z5:=Tryz.sizeOf5
 v5:=Tryz.zeroValue5
 t9:=Tryz.underlying9
 a9:=Tryz.isAgg9
 z9:=Tryz.sizeOf9
 v9:=Tryz.zeroValue9
 t39:=Tryz.underlying156
 a39:=Tryz.isAgg156
 z39:=Tryz.sizeOf156
 v39:=Tryz.zeroValue156
 t53:=Tryz.underlying200
 a53:=Tryz.isAgg200
 z53:=Tryz.sizeOf200
 v53:=Tryz.zeroValue200
 t55:=Tryz.underlying23
 a55:=Tryz.isAgg23
 z55:=Tryz.sizeOf23
 v55:=Tryz.zeroValue23 }
end Go.Proofs
namespace Go.Ep
open Go.Shelf Go.RowKit Go.Lib Go.Sort Go.Proofs
theorem SortLaw.of{α:Type}[Inhabited α]{P:Program}{f g:FuncId}{k:Nat}{enc:α->List Value}{lt:α->α->Bool}{cf:α->α->Int}(hO:SWO (ltOf cf))(hlt:∀ x y,ltOf cf x y=lt x y)(hk:∀ x,(enc x).length=k)
  (hnil:∀ w:World,Calls P f #[.slice none 0 0,.func (.func g) #[] #[]] w fun e w'=>e=.returned (.tuple #[])/\Go.RowKit.Below w.heap.size w w')
  (hrow:∀ (blk off cap:Nat) (d:Array α) (w:World),HoldsK enc k w blk off d->blk < w.heap.size->d.size < 4611686018427387904 ->
   Calls P f #[.slice (some ⟨blk,off,none⟩) d.size cap,.func (.func g) #[] #[]] w fun e w'=>e=.returned (.tuple #[])/\∃ n os,w'=sortWorldK enc k w blk off n (pdq (ltOf cf) d 0 d.size (Lib.bitLen d.size) true true) os):SortLaw P f g k enc lt:=by
 refine⟨hnil,fun w blk cap l T cur hh hlc hcs hlen hcells=>?_⟩;have hblk:blk < w.heap.size:=(Array.getElem?_eq_some_iff.1 hh).1;have hH:HoldsK enc k w blk 0 l.toArray:=by
  intro j hj;rw[size_flatK] at hj;have hj':j < l.length*k:=by simpa using hj
  obtain⟨hk0,h1,h2,h3⟩:=Wz hj'
  constructor
  ·rw[Nat.zero_add,zi hh];show _=some ((flatK enc k l.toArray)[j]!);rw[get_flatK _ _ _ _ hj];have hx:l[j / k]?=some l[j / k]:=List.getElem?_eq_getElem h1;have hlk:(enc l[j / k]).length=k:=hk _;have hu:(enc l[j / k])[j % k]?=some ((enc l[j / k])[j % k]'(by omega)):=List.getElem?_eq_getElem (by omega);have:=hcells (j / k) _ (j % k) _ hx hu;rw[h3] at this;rw[this];have e1:(l.toArray)[j / k]! = l[j / k]:=by simp[h1]
   rw[e1];simp[hu]
  ·simp[World.frozen?,hh]
 have hd:l.toArray.size=l.length:=by simp
 have hcall:=hrow blk 0 cap l.toArray w hH hblk (by simpa using hlen);rw[hd] at hcall;refine hcall.mono fun e w' ⟨he,n,os,hw⟩=>⟨he,?_⟩
 have hp:=pdq_sorts (ltOf cf) hO l.toArray 0 l.toArray.size (Lib.bitLen l.toArray.size) true true (Nat.zero_le _) (Nat.le_refl _) (Or.inl rfl);rw[hd] at hp
 generalize pdq (ltOf cf) l.toArray 0 l.length (Lib.bitLen l.length) true true=d' at hp hw
 obtain⟨⟨hsz,_,hperm⟩,hsort⟩:=hp;have hsz':d'.size=l.length:=by simpa using hsz
 have hp':d'.toList.Perm l:=by
  have e1:(d'.extract 0 l.length).toList=d'.toList:=by rw[<- hsz'];simp
  have e2:(l.toArray.extract 0 l.length).toList=l:=by simp
  rw[e1,e2] at hperm;exact hperm
 have hmod:∀ b,b < w.heap.size->(sortWorldK enc k w blk 0 n d' os).heap[b]?=if blk=b then (w.heap[b]?).map (onCells (putCells id 0 (flatK enc k d'))) else w.heap[b]?:=by
  intro b hb;have hb2:b < (putRowK enc k (Sort.ahead w n) blk 0 d').heap.size:=by simpa[putRowK,Sort.ahead] using hb
  show(grow (putRowK enc k (Sort.ahead w n) blk 0 d') os).heap[b]?=_;rw[Sort.heap_grow_old _ _ hb2];show((w.heap.modify blk (onCells (putCells id 0 (flatK enc k d')))))[b]?=_;rw[Array.getElem?_modify]
 subst hw;refine⟨d'.toList,(putCells id 0 (flatK enc k d') cur.toArray).toList,hp',?_,?_,?_,?_,rfl,rfl,rfl,?_,?_⟩
 ·rw[List.pairwise_iff_getElem];intro i j hi hj hij;have:=hsort i j (Nat.zero_le _) hij (by simpa[hsz'] using hj);rw[hlt] at this;have hi':i < d'.size:=by simpa using hi
  have hj':j < d'.size:=by simpa using hj
  simpa[hi',hj'] using this
 ·rw[hmod blk hblk,if_pos rfl,hh];simp[onCells]
 ·simp[putCells]
 ·intro i x j u hi hu;have hi':i < l.length:=by rw[<- hsz'];have:=(List.getElem?_eq_some_iff.1 hi).1;simpa using this
  have hj:j < k:=by rw[<- hk x];exact(List.getElem?_eq_some_iff.1 hu).1
  have hlt2:i*k+j < l.length*k:=XK hi' hj;have hcl:l.length*k<=cur.length:=by rw[hcs];exact Nat.mul_le_mul_right k hlc
  have hin:i*k+j < d'.size*k:=by rw[hsz'];exact hlt2
  have hget:(flatK enc k d')[i*k+j]! = u:=by
   rw[get_flatK _ _ _ _ hin];have hk0:0 < k:=by omega
   have e1:(i*k+j) / k=i:=by rw[Nat.mul_comm,Nat.mul_add_div hk0,Nat.div_eq_of_lt hj];omega
   have e2:(i*k+j) % k=j:=by rw[Nat.mul_comm,Nat.mul_add_mod,Nat.mod_eq_of_lt hj]
   rw[e1,e2];have e3:d'[i]! = x:=by
    obtain⟨h1,h2⟩:=List.getElem?_eq_some_iff.1 hi;have h1':i < d'.size:=by simpa using h1
    rw[getElem!_pos d' i h1'];simpa using h2
   rw[e3];simp[hu]
  have hc2:i*k+j < cur.length:=by omega
  simp only[putCells,Array.toList_mapIdx,List.getElem?_mapIdx];rw[List.getElem?_eq_getElem hc2];simp only[Option.map_some,id];rw[if_pos ⟨Nat.zero_le _,by rw[size_flatK];omega⟩,Nat.sub_zero,hget]
 ·show w.heap.size<=(grow (putRowK enc k (Sort.ahead w n) blk 0 d') os).heap.size;simp[grow,putRowK,Sort.ahead]
 ·intro b hb hne;rw[hmod b hb,if_neg (Ne.symm hne)]
end Go.Ep
namespace Go.Proofs
set_option linter.unusedSimpArgs false
set_option linter.unusedVariables false
open Go.Shelf Go.RowKit Go.Lib Go.Sort Go.Ep
theorem uDa(a:Int)(W:World):Calls Tryz.prog 139 #[.int .u16 a] W fun e w'=>e=.returned (.bool false)/\w'=W:=by
 go_enter Tryz.func139,Tryz.ntmps139
 go_wp2
 go_ret
 exact⟨by simp,rfl⟩
theorem cmpu16(a b:Int)(W:World):Calls Tryz.prog 113 #[.int .u16 a,.int .u16 b] W fun e w'=>e=.returned (.int .i64 (Lib.compareInt a b))/\w'=W:=by
 unfold Lib.compareInt
 by_cases h1:a < b
 ·go_enter Tryz.func113,Tryz.ntmps113
  go_wp2_with (go_at_call 139;refine(uDa _ _).mono ?_;rintro e w' ⟨rfl,rfl⟩)
  go_ret
  exact⟨by simp[h1],rfl⟩
 ·by_cases h2:b < a
  ·go_enter Tryz.func113,Tryz.ntmps113
   go_wp2_with (go_at_call 139;refine(uDa _ _).mono ?_;rintro e w' ⟨rfl,rfl⟩)
   go_ret
   exact⟨by simp[h1,h2],rfl⟩
  ·go_enter Tryz.func113,Tryz.ntmps113
   go_wp2_with (go_at_call 139;refine(uDa _ _).mono ?_;rintro e w' ⟨rfl,rfl⟩)
   go_ret
   exact⟨by simp[h1,h2],rfl⟩
theorem uEa(a:Int)(W:World):Calls Tryz.prog 140 #[.int .u64 a] W fun e w'=>e=.returned (.bool false)/\w'=W:=by
 go_enter Tryz.func140,Tryz.ntmps140
 go_wp2
 go_ret
 exact⟨by simp,rfl⟩
theorem cmpu64(a b:Int)(W:World):Calls Tryz.prog 114 #[.int .u64 a,.int .u64 b] W fun e w'=>e=.returned (.int .i64 (Lib.compareInt a b))/\w'=W:=by
 unfold Lib.compareInt
 by_cases h1:a < b
 ·go_enter Tryz.func114,Tryz.ntmps114
  go_wp2_with (go_at_call 140;refine(uEa _ _).mono ?_;rintro e w' ⟨rfl,rfl⟩)
  go_ret
  exact⟨by simp[h1],rfl⟩
 ·by_cases h2:b < a
  ·go_enter Tryz.func114,Tryz.ntmps114
   go_wp2_with (go_at_call 140;refine(uEa _ _).mono ?_;rintro e w' ⟨rfl,rfl⟩)
   go_ret
   exact⟨by simp[h1,h2],rfl⟩
  ·go_enter Tryz.func114,Tryz.ntmps114
   go_wp2_with (go_at_call 140;refine(uEa _ _).mono ?_;rintro e w' ⟨rfl,rfl⟩)
   go_ret
   exact⟨by simp[h1,h2],rfl⟩
def z5a(x y:DT):Int:=if Lib.compareInt x.dev y.dev≠0 then Lib.compareInt x.dev y.dev else Lib.compareInt x.n y.n
theorem uFa(x y:DT)(W:World):Calls Tryz.prog 85 #[.agg #[.int .u16 x.dev,.int .u64 x.n],.agg #[.int .u16 y.dev,.int .u64 y.n]] W fun e w'=>e=.returned (.int .i64 (z5a x y))/\∃ q os',w'=grow (W.drewN q) os':=by
 have c1:=fun W'=>cmpu16 x.dev y.dev W'
 have c2:=fun W'=>cmpu64 x.n y.n W'
 unfold z5a
 generalize Lib.compareInt x.dev y.dev=r1 at c1 ⊢
 generalize Lib.compareInt x.n y.n=r2 at c2 ⊢
 by_cases h:r1=0
 ·subst h
  go_enter Tryz.func85,Tryz.ntmps85
  go_wp2_with (first | (go_at_call 113;refine(c1 _).mono ?_;rintro e w' ⟨rfl,rfl⟩) | (go_at_call 114;refine(c2 _).mono ?_;rintro e w' ⟨rfl,rfl⟩))
  go_ret
  exact⟨by simp,0,_,by rw[alloc_eq_grow,alloc_eq_grow,grow_grow];rfl⟩
 ·go_enter Tryz.func85,Tryz.ntmps85
  go_wp2_with (first | (go_at_call 113;refine(c1 _).mono ?_;rintro e w' ⟨rfl,rfl⟩) | (go_at_call 114;refine(c2 _).mono ?_;rintro e w' ⟨rfl,rfl⟩))
  go_ret
  exact⟨by simp[h],0,_,by rw[alloc_eq_grow,alloc_eq_grow,grow_grow];rfl⟩
theorem QW(x y:DT):ltOf z5a x y=zd x y:=by
 unfold ltOf z5a Lib.compareInt zd;rw[Bool.eq_iff_iff];simp only[decide_eq_true_eq,Bool.or_eq_true,Bool.and_eq_true]
 split <;> (repeat' split) <;> omega
theorem wMa : SWO (ltOf z5a) where
 irrefl x:=by rw[QW];simp[zd]
 trans x y z h1 h2:=by rw[QW] at *;simp[zd] at *;omega
 ntrans x y z h1 h2:=by rw[QW] at *;simp[zd] at *;omega
instance inhcf131 : Inhabited DT:=⟨⟨0,0⟩⟩
theorem uGa(blk off size:Nat)(w:World):CmpLays Tryz.prog 85 #[] DT.v 2 z5a blk off size w:=fun _ _ _ _ x y=>uFa x y _
set_option maxHeartbeats 2000000 in
set_option maxRecDepth 100000 in
theorem vHa(blk off cap:Nat)(d:Array DT)(w:World)(hH:HoldsK DT.v 2 w blk off d)(hblk:blk < w.heap.size)(hsz:d.size < 4611686018427387904) :
  Calls Tryz.prog 131 #[.slice (some ⟨blk,off,none⟩) d.size cap,.func (.func 85) #[] #[]] w fun e w'=>e=.returned (.tuple #[])/\∃ n os,w'=sortWorldK DT.v 2 w blk off n (pdq (ltOf z5a) d 0 d.size (Lib.bitLen d.size) true true) os:=by
 have eg:∀ args w,(callFunc 85 args).run Tryz.prog w=.ok (.enter 85 args) w:=Tryz.call85;have e14:=Tryz.call147;have e15:=Tryz.call148;have hlim:Lib.bitLen d.size < 4611686018427387904:=Nat.lt_of_le_of_lt (Lib.bitLen_le d.size 62 (by omega) (by omega)) (by omega);have hp:=AnyQ.pdqsortCmpFunc_all Tryz.pdq147 2 Tryz.isAgg25 Tryz.sizeOf25 DT.v z5a 85 #[] wMa blk off cap d w eg (uGa blk off d.size w) ⟨fun _=>rfl,DT.v1,hH,hblk⟩ (d.size+1) 0 d.size (Lib.bitLen d.size) d w (by omega) rfl (SWK.start hH) (Nat.zero_le _) (Nat.le_refl _) hsz hlim (Or.inl rfl)
 change Calls Tryz.prog 147 _ _ _ at hp
 have hl:Calls Tryz.prog 148 #[.int .u64 (d.size:Int)] w fun e w'=>e=.returned (.int .i64 (Lib.bitLen d.size:Nat))/\w'=w:=by
  have h:=Any.bits_Len (SlLaysF0.n15.bits Tryz.bits148) (d.size:Int) w (by omega) (by omega)
  rwa [Int.toNat_natCast] at h
 have wr:IntKind.u64.wrap (d.size:Int)=d.size:=by simp[IntKind.wrap,IntKind.bits,IntKind.signed];omega
 clear hH
 go_enter Tryz.func131,Tryz.ntmps131
 go_wp2_with (first | (go_at_call 148;refine hl.mono ?_;rintro e w' ⟨rfl,rfl⟩) | (go_at_call 147;refine hp.mono ?_;rintro e w' ⟨rfl,n,os,rfl⟩))
 go_end0
 exact⟨rfl,n,os,rfl⟩
theorem xHa(w:World):Calls Tryz.prog 131 #[.slice none 0 0,.func (.func 85) #[] #[]] w fun e w'=>e=.returned (.tuple #[])/\Go.RowKit.Below w.heap.size w w':=by
 have e14:=Tryz.call147;have e15:=Tryz.call148;have hp:=fun lim W=>AnyF.pdqsortCmpFunc_none Tryz.pdq147 none 0 lim (.func (.func 85) #[] #[]) W
 have hl:∀ W,Calls Tryz.prog 148 #[.int .u64 0] W fun e w'=>e=.returned (.int .i64 (Lib.bitLen 0:Nat))/\w'=W:=fun W=>by
  have h:=Any.bits_Len (SlLaysF0.n15.bits Tryz.bits148) 0 W (by omega) (by omega);exact h
 go_enter Tryz.func131,Tryz.ntmps131
 go_wp2_with (first | (go_at_call 148;refine(hl _).mono ?_;rintro e w' ⟨rfl,rfl⟩) | (go_at_call 147;refine(hp _ _).mono ?_;rintro e w' ⟨rfl,rfl⟩))
 go_end0
 exact⟨rfl,Go.RowKit.Below.refl _ _⟩
theorem uHa : SortLaw Tryz.prog 131 85 2 DT.v zd:=SortLaw.of wMa QW (fun _=>rfl) xHa (fun blk off cap d w hH hblk hsz=>vHa blk off cap d w hH hblk hsz)
structure RawTPart where
 dev_:Int
 c1:Value
 h1:c1.oneCell'=true
def RawTPart.v(r:RawTPart):List Value:=[.int .u16 r.dev_,r.c1]
theorem RawTPart.v1(r:RawTPart):∀ u∈r.v,u.oneCell'=true:=by
 intro u hu;simp only[RawTPart.v,List.mem_cons,List.not_mem_nil,or_false] at hu;rcases hu with rfl | rfl
 ·rfl
 ·exact r.h1
def RawTPart.R(x:PT)(r:RawTPart):Prop:=r.dev_=x.dev
theorem RawTPart.raw(w:World)(S:Nat->Prop)(x:PT)(us:List Value)(hl:us.length=2)(h:∀ (j:Nat) (d:DV) (u:Value),(PT.e x)[j]?=some d->us[j]?=some u->DRd w S d u):∃ r:RawTPart,r.v=us/\RawTPart.R x r:=by
 match us,hl with
 | [u0,u1],_=>
  refine⟨⟨x.dev,u1,(h 1 _ u1 rfl rfl).one⟩,?_,rfl⟩;have e0:=h 0 _ u0 rfl rfl
  cases e0
  rfl
def z6a(x y:RawTPart):Int:=Lib.compareInt x.dev_ y.dev_
theorem uIa(x y:RawTPart)(W:World):Calls Tryz.prog 135 #[.agg #[.int .u16 x.dev_,x.c1],.agg #[.int .u16 y.dev_,y.c1]] W fun e w'=>e=.returned (.int .i64 (z6a x y))/\∃ q os',w'=grow (W.drewN q) os':=by
 have c1:=fun W'=>cmpu16 x.dev_ y.dev_ W'
 unfold z6a
 generalize Lib.compareInt x.dev_ y.dev_=r1 at c1 ⊢
 go_enter Tryz.func135,Tryz.ntmps135
 go_wp2_with (go_at_call 113;refine(c1 _).mono ?_;rintro e w' ⟨rfl,rfl⟩)
 go_ret
 exact⟨rfl,0,_,by rw[alloc_eq_grow,alloc_eq_grow,grow_grow];rfl⟩
theorem QX(x y:RawTPart):ltOf z6a x y=(fun x y:RawTPart=>decide (x.dev_ < y.dev_)) x y:=by
 unfold ltOf z6a Lib.compareInt ;rw[Bool.eq_iff_iff];simp only[decide_eq_true_eq,Bool.or_eq_true,Bool.and_eq_true]
 split <;> (repeat' split) <;> omega
theorem wNa : SWO (ltOf z6a) where
 irrefl x:=by rw[QX];simp[]
 trans x y z h1 h2:=by rw[QX] at *;simp[] at *;omega
 ntrans x y z h1 h2:=by rw[QX] at *;simp[] at *;omega
instance inhcf134 : Inhabited RawTPart:=⟨⟨0,.int .u64 0,rfl⟩⟩
theorem uJa(blk off size:Nat)(w:World):CmpLays Tryz.prog 135 #[] RawTPart.v 2 z6a blk off size w:=fun _ _ _ _ x y=>uIa x y _
set_option maxHeartbeats 2000000 in
set_option maxRecDepth 100000 in
theorem vIa(blk off cap:Nat)(d:Array RawTPart)(w:World)(hH:HoldsK RawTPart.v 2 w blk off d)(hblk:blk < w.heap.size)(hsz:d.size < 4611686018427387904) :
  Calls Tryz.prog 134 #[.slice (some ⟨blk,off,none⟩) d.size cap,.func (.func 135) #[] #[]] w fun e w'=>e=.returned (.tuple #[])/\∃ n os,w'=sortWorldK RawTPart.v 2 w blk off n (pdq (ltOf z6a) d 0 d.size (Lib.bitLen d.size) true true) os:=by
 have eg:∀ args w,(callFunc 135 args).run Tryz.prog w=.ok (.enter 135 args) w:=Tryz.call135;have e14:=Tryz.call151;have e15:=Tryz.call148;have hlim:Lib.bitLen d.size < 4611686018427387904:=Nat.lt_of_le_of_lt (Lib.bitLen_le d.size 62 (by omega) (by omega)) (by omega);have hp:=AnyQ.pdqsortCmpFunc_all Tryz.pdq151 2 Tryz.isAgg94 Tryz.sizeOf94 RawTPart.v z6a 135 #[] wNa blk off cap d w eg (uJa blk off d.size w) ⟨fun _=>rfl,RawTPart.v1,hH,hblk⟩ (d.size+1) 0 d.size (Lib.bitLen d.size) d w (by omega) rfl (SWK.start hH) (Nat.zero_le _) (Nat.le_refl _) hsz hlim (Or.inl rfl)
 change Calls Tryz.prog 151 _ _ _ at hp
 have hl:Calls Tryz.prog 148 #[.int .u64 (d.size:Int)] w fun e w'=>e=.returned (.int .i64 (Lib.bitLen d.size:Nat))/\w'=w:=by
  have h:=Any.bits_Len (SlLaysF0.n15.bits Tryz.bits148) (d.size:Int) w (by omega) (by omega)
  rwa [Int.toNat_natCast] at h
 have wr:IntKind.u64.wrap (d.size:Int)=d.size:=by simp[IntKind.wrap,IntKind.bits,IntKind.signed];omega
 clear hH
 go_enter Tryz.func134,Tryz.ntmps134
 go_wp2_with (first | (go_at_call 148;refine hl.mono ?_;rintro e w' ⟨rfl,rfl⟩) | (go_at_call 151;refine hp.mono ?_;rintro e w' ⟨rfl,n,os,rfl⟩))
 go_end0
 exact⟨rfl,n,os,rfl⟩
theorem xIa(w:World):Calls Tryz.prog 134 #[.slice none 0 0,.func (.func 135) #[] #[]] w fun e w'=>e=.returned (.tuple #[])/\Go.RowKit.Below w.heap.size w w':=by
 have e14:=Tryz.call151;have e15:=Tryz.call148;have hp:=fun lim W=>AnyF.pdqsortCmpFunc_none Tryz.pdq151 none 0 lim (.func (.func 135) #[] #[]) W
 have hl:∀ W,Calls Tryz.prog 148 #[.int .u64 0] W fun e w'=>e=.returned (.int .i64 (Lib.bitLen 0:Nat))/\w'=W:=fun W=>by
  have h:=Any.bits_Len (SlLaysF0.n15.bits Tryz.bits148) 0 W (by omega) (by omega);exact h
 go_enter Tryz.func134,Tryz.ntmps134
 go_wp2_with (first | (go_at_call 148;refine(hl _).mono ?_;rintro e w' ⟨rfl,rfl⟩) | (go_at_call 151;refine(hp _ _).mono ?_;rintro e w' ⟨rfl,rfl⟩))
 go_end0
 exact⟨rfl,Go.RowKit.Below.refl _ _⟩
theorem vJa : SortLaw Tryz.prog 134 135 2 RawTPart.v (fun x y:RawTPart=>decide (x.dev_ < y.dev_)):=SortLaw.of wNa QX (fun _=>rfl) xIa (fun blk off cap d w hH hblk hsz=>vIa blk off cap d w hH hblk hsz)
theorem rlt134(x y:PT)(r r':RawTPart)(h1:RawTPart.R x r)(h2:RawTPart.R y r'):((fun x y:RawTPart=>decide (x.dev_ < y.dev_))) r r'=qc x y:=by simp only[RawTPart.R] at h1 h2;simp[h1,h2,qc]
def z7a(x y:RN):Int:=Lib.compareInt x.lo y.lo
theorem uKa(x y:RN)(W:World):Calls Tryz.prog 150 #[.agg #[.int .u64 x.lo,.int .u64 x.hi],.agg #[.int .u64 y.lo,.int .u64 y.hi]] W fun e w'=>e=.returned (.int .i64 (z7a x y))/\∃ q os',w'=grow (W.drewN q) os':=by
 have c1:=fun W'=>cmpu64 x.lo y.lo W'
 unfold z7a
 generalize Lib.compareInt x.lo y.lo=r1 at c1 ⊢
 go_enter Tryz.func150,Tryz.ntmps150
 go_wp2_with (go_at_call 114;refine(c1 _).mono ?_;rintro e w' ⟨rfl,rfl⟩)
 go_ret
 exact⟨rfl,0,_,by rw[alloc_eq_grow,alloc_eq_grow,grow_grow];rfl⟩
theorem QY(x y:RN):ltOf z7a x y=qJ x y:=by
 unfold ltOf z7a Lib.compareInt qJ;rw[Bool.eq_iff_iff];simp only[decide_eq_true_eq,Bool.or_eq_true,Bool.and_eq_true]
 split <;> (repeat' split) <;> omega
theorem wOa : SWO (ltOf z7a) where
 irrefl x:=by rw[QY];simp[qJ]
 trans x y z h1 h2:=by rw[QY] at *;simp[qJ] at *;omega
 ntrans x y z h1 h2:=by rw[QY] at *;simp[qJ] at *;omega
instance inhcf149 : Inhabited RN:=⟨⟨0,0⟩⟩
theorem uLa(blk off size:Nat)(w:World):CmpLays Tryz.prog 150 #[] RN.v 2 z7a blk off size w:=fun _ _ _ _ x y=>uKa x y _
set_option maxHeartbeats 2000000 in
set_option maxRecDepth 100000 in
theorem vKa(blk off cap:Nat)(d:Array RN)(w:World)(hH:HoldsK RN.v 2 w blk off d)(hblk:blk < w.heap.size)(hsz:d.size < 4611686018427387904) :
  Calls Tryz.prog 149 #[.slice (some ⟨blk,off,none⟩) d.size cap,.func (.func 150) #[] #[]] w fun e w'=>e=.returned (.tuple #[])/\∃ n os,w'=sortWorldK RN.v 2 w blk off n (pdq (ltOf z7a) d 0 d.size (Lib.bitLen d.size) true true) os:=by
 have eg:∀ args w,(callFunc 150 args).run Tryz.prog w=.ok (.enter 150 args) w:=Tryz.call150;have e14:=Tryz.call169;have e15:=Tryz.call148;have hlim:Lib.bitLen d.size < 4611686018427387904:=Nat.lt_of_le_of_lt (Lib.bitLen_le d.size 62 (by omega) (by omega)) (by omega);have hp:=AnyQ.pdqsortCmpFunc_all Tryz.pdq169 2 Tryz.isAgg117 Tryz.sizeOf117 RN.v z7a 150 #[] wOa blk off cap d w eg (uLa blk off d.size w) ⟨fun _=>rfl,RN.v1,hH,hblk⟩ (d.size+1) 0 d.size (Lib.bitLen d.size) d w (by omega) rfl (SWK.start hH) (Nat.zero_le _) (Nat.le_refl _) hsz hlim (Or.inl rfl)
 change Calls Tryz.prog 169 _ _ _ at hp
 have hl:Calls Tryz.prog 148 #[.int .u64 (d.size:Int)] w fun e w'=>e=.returned (.int .i64 (Lib.bitLen d.size:Nat))/\w'=w:=by
  have h:=Any.bits_Len (SlLaysF0.n15.bits Tryz.bits148) (d.size:Int) w (by omega) (by omega)
  rwa [Int.toNat_natCast] at h
 have wr:IntKind.u64.wrap (d.size:Int)=d.size:=by simp[IntKind.wrap,IntKind.bits,IntKind.signed];omega
 clear hH
 go_enter Tryz.func149,Tryz.ntmps149
 go_wp2_with (first | (go_at_call 148;refine hl.mono ?_;rintro e w' ⟨rfl,rfl⟩) | (go_at_call 169;refine hp.mono ?_;rintro e w' ⟨rfl,n,os,rfl⟩))
 go_end0
 exact⟨rfl,n,os,rfl⟩
theorem xJa(w:World):Calls Tryz.prog 149 #[.slice none 0 0,.func (.func 150) #[] #[]] w fun e w'=>e=.returned (.tuple #[])/\Go.RowKit.Below w.heap.size w w':=by
 have e14:=Tryz.call169;have e15:=Tryz.call148;have hp:=fun lim W=>AnyF.pdqsortCmpFunc_none Tryz.pdq169 none 0 lim (.func (.func 150) #[] #[]) W
 have hl:∀ W,Calls Tryz.prog 148 #[.int .u64 0] W fun e w'=>e=.returned (.int .i64 (Lib.bitLen 0:Nat))/\w'=W:=fun W=>by
  have h:=Any.bits_Len (SlLaysF0.n15.bits Tryz.bits148) 0 W (by omega) (by omega);exact h
 go_enter Tryz.func149,Tryz.ntmps149
 go_wp2_with (first | (go_at_call 148;refine(hl _).mono ?_;rintro e w' ⟨rfl,rfl⟩) | (go_at_call 169;refine(hp _ _).mono ?_;rintro e w' ⟨rfl,rfl⟩))
 go_end0
 exact⟨rfl,Go.RowKit.Below.refl _ _⟩
theorem vLa : SortLaw Tryz.prog 149 150 2 RN.v qJ:=SortLaw.of wOa QY (fun _=>rfl) xJa (fun blk off cap d w hH hblk hsz=>vKa blk off cap d w hH hblk hsz)
end Go.Proofs
