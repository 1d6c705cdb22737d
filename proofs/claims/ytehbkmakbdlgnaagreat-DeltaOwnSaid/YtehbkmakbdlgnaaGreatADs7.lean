/- Side texts. -/
import Derived.Test.YtehbkmakbdlgnaaGreatProg
import Derived.Shelf.SlGeneric
import Derived.Shelf.SlLaysF0
import Derived.Ground.SlsfProg
import Derived.Shelf.SlSortCmp.WholeK
import Derived.Shelf.SlSortCmp.NoneTotal
import Derived.StillTactics
import Derived.RegionTactic
import Derived.Test.YtehbkmakbdlgnaaGreatADs2
import Derived.Test.YtehbkmakbdlgnaaGreatADs6
set_option linter.unusedVariables false
set_option linter.unusedSimpArgs false
namespace Go.Ep
open Go
def Xe(c1:List PT):Int->M (M.Step Int (M.Ex Unit Bool)):=fun i12=>
 cond ((decide (i12 < (c1.length:Int))))
  (M.bind (M.idx c1 i12) fun x14=>
  cond ((decide (30 < (x14.runs.length:Int))))
   (M.pure (.done (.ret false)))
   (M.pure (.next (IntKind.i64.wrap (i12+1)))))
  (M.pure (.done (.brk ())))
def jd(c1:List PT):M Bool:=
 cond ((decide (30 < (c1.length:Int))))
  (M.pure false)
  (M.bind (M.loop (Xe c1) 0) (M.exk (fun _=>
  M.pure true)))
def Xf(l1:List EV):Int->M (M.Step Int (M.Ex Unit Bool)):=fun i21=>
 cond ((decide (i21 < (l1.length:Int))))
  (M.bind (M.bind (M.idx l1 i21) fun x24=>
  cond ((decide (300 < (x24.kills.length:Int))))
   (M.pure true)
   (M.bind (M.idx l1 i21) fun x27=>
   M.pure ((decide (200 < (ByteArray.size x27.text:Int)))))) (fun v23=>
  cond v23
   (M.pure (.done (.ret false)))
   (M.pure (.next (IntKind.i64.wrap (i21+1))))))
  (M.pure (.done (.brk ())))
def je(l1:List EV)(most2:Int):M Bool:=
 cond ((decide (most2 < (l1.length:Int))))
  (M.pure false)
  (M.bind (M.loop (Xf l1) 0) (M.exk (fun _=>
  M.pure true)))
def Xg(l1:List LA):Int->M (M.Step Int (M.Ex Unit Int)):=fun i29=>
 cond ((decide (i29 < (l1.length:Int))))
  (M.bind (M.bind (M.idx l1 i29) fun x32=>
  M.bind (M.det (je ([x32.event]) 1)) fun v34=>
  cond (!v34)
   (M.pure true)
   (M.bind (M.idx l1 i29) fun x37=>
   M.bind (M.det (jd x37.ctx)) fun v39=>
   M.pure (!v39))) (fun v31=>
  cond v31
   (M.pure (.done (.ret 0)))
   (M.pure (.next (IntKind.i64.wrap (i29+1))))))
  (M.pure (.done (.brk ())))
def qz(l1:List LA)(most2:Int):M Int:=
 cond ((decide (most2 < (l1.length:Int))))
  (M.pure 0)
  (M.bind (M.loop (Xg l1) 0) (M.exk (fun _=>
  M.pure 1)))
def vE(x1:Int):M Bool:=
 M.pure (!decide (x1=x1))
def xM(x1:Int)(y2:Int):M Int:=
 M.bind (M.det (vE x1)) fun v3=>
 M.bind (M.det (vE y2)) fun v5=>
 cond v3
  (cond v5
   (M.pure 0)
   (M.pure (-1)))
  (cond v5
   (M.pure 1)
   (cond (decide (x1 < y2))
    (M.pure (-1))
    (cond (decide (y2 < x1))
     (M.pure 1)
     (M.pure 0))))
def uJ(l1:List RN):Int×List RN->M (M.Step (Int×List RN) (List RN)):=fun⟨v23,some24⟩=>
 cond ((decide (v23 < (l1.length:Int))))
  (M.bind (M.bind (M.idx l1 v23) fun x27=>
  M.bind (cond (decide (0 < x27.lo))
   (cond (decide (x27.lo<=x27.hi))
    (M.pure (decide (x27.hi<=281474976710655)))
    (M.pure false))
   (M.pure false)) (fun v29=>
  cond v29
   (M.yt ((some24.length+List.length ([x27]))*16<=140737488355328) <|
   M.pure (some24++[x27]))
   (M.pure some24))) (fun some26=>
  M.pure (.next (((IntKind.i64.wrap (v23+1)),some26)))))
  (M.pure (.done some24))
def uK(some2:List RN)(s34:List RN):Int×List RN->M (M.Step (Int×List RN) (List RN)):=fun⟨v69,out70⟩=>
 cond ((decide (v69 < ((some2.length):Int))))
  (M.bind (M.bind (M.idx s34 v69) fun x73=>
  M.bind (cond ((decide (0<=((IntKind.i64.wrap (((out70.length):Int) - 1))))))
   (M.bind (M.idx out70 ((IntKind.i64.wrap (((out70.length):Int) - 1)))) fun x77=>
   M.pure ((decide (x73.lo<=(IntKind.u64.wrap (x77.hi+1))))))
   (M.pure false)) (fun v75=>
  cond v75
   (M.bind (M.idx out70 ((IntKind.i64.wrap (((out70.length):Int) - 1)))) fun x80=>
   M.bind (M.idx out70 ((IntKind.i64.wrap (((out70.length):Int) - 1)))) fun x82=>
   M.pure ((List.set out70 ((Int.toNat ((IntKind.i64.wrap (((out70.length):Int) - 1))))) (⟨x82.lo,(max x80.hi x73.hi)⟩:RN))))
   (M.yt ((out70.length+List.length ([x73]))*16<=140737488355328) <|
   M.pure (out70++[x73])))) (fun out72=>
  M.pure (.next (((IntKind.i64.wrap (v69+1)),out72)))))
  (M.pure (.done out70))
def xx(l1:List RN):M (List RN):=
 M.bind (M.loop (uJ l1) (0,([]:List RN))) (fun some2=>
 M.yt (some2.length < 4611686018427387904)<|M.bind (M.srt Je some2) fun s34=>
 M.bind (M.loop (uK some2 s34) (0,([]:List RN))) (fun out38=>
 M.pure out38))
def vF(x1:Int):M Bool:=
 M.pure (!decide (x1=x1))
def xm(x1:Int)(y2:Int):M Int:=
 M.bind (M.det (vF x1)) fun v3=>
 M.bind (M.det (vF y2)) fun v5=>
 cond v3
  (cond v5
   (M.pure 0)
   (M.pure (-1)))
  (cond v5
   (M.pure 1)
   (cond (decide (x1 < y2))
    (M.pure (-1))
    (cond (decide (y2 < x1))
     (M.pure 1)
     (M.pure 0))))
def Zd(m1:List (Int×List RN)):List Nat×List PT->M (M.Step (List Nat×List PT) (List PT)):=fun⟨seen28,c29⟩=>
 M.yt (∀ i∈seen28,i < m1.length)<|M.bind (M.nxt (m1.length) seen28) fun o=>match o with
 | none=>
  M.pure (.done c29)
 | some j30=>
  M.bind (M.idx m1 (Int.ofNat j30)) fun kv34=>
  M.bind (M.det (xx kv34.2)) fun v36=>
  cond ((decide (0 < ((v36.length):Int))))
   (M.yt ((c29.length+List.length ([(⟨kv34.1,v36⟩:PT)]))*32<=140737488355328) <|
   M.pure (.next (((seen28++[j30]),(c29++[(⟨kv34.1,v36⟩:PT)])))))
   (M.pure (.next ((seen28++[j30]),c29)))
def ww(m1:List (Int×List RN)):M (List PT):=
 M.bind (M.loop (Zd m1) ([],([]:List PT))) (fun c3=>
 M.yt (c3.length < 4611686018427387904)<|M.bind (M.srt jc c3) fun s41=>
 M.pure s41)
def zu(p:PT):Option (Int×List RN):=if 0 < p.dev then some (p.dev,p.runs) else none
def ud(c1:List PT):M (List (Int×List RN)):=
 M.yt (AL.growOK 16 (c1.length) (List.filterMap zu c1)) <|
 M.pure ((AL.grow ([]:List (Int×List RN)) (List.filterMap zu c1)))
def vW(c1:List PT):M (List PT):=
 M.bind (M.det (ud c1)) fun v2=>
 M.bind (M.det (ww v2)) fun v5=>
 M.pure v5
def Ze :List RN×List RN×List RN->M (M.Step (List RN×List RN×List RN) (List RN)):=fun⟨a53,b54,out55⟩=>
 M.bind (cond ((decide (0 < (a53.length:Int))))
  (M.pure ((decide (0 < (b54.length:Int)))))
  (M.pure false)) (fun v56=>
 cond v56
  (M.bind (M.idx a53 0) fun x59=>
  M.bind (M.idx b54 0) fun x61=>
  M.bind (M.idx a53 0) fun x63=>
  M.bind (M.idx b54 0) fun x65=>
  M.bind (cond ((decide ((max x59.lo x61.lo)<=(min x63.hi x65.hi))))
   (M.yt ((out55.length+List.length ([(⟨(max x59.lo x61.lo),(min x63.hi x65.hi)⟩:RN)]))*16<=140737488355328) <|
   M.pure ((out55++[(⟨(max x59.lo x61.lo),(min x63.hi x65.hi)⟩:RN)])))
   (M.pure out55)) (fun out67=>
  M.bind (M.idx a53 0) fun x70=>
  M.bind (M.idx b54 0) fun x72=>
  cond (decide (x70.hi < x72.hi))
   (M.yt ((0:Int)<=1/\(1:Int)<=(a53.length:Int)/\(a53.length:Int)<=(a53.length:Int)) <|
   M.pure (.next (((List.drop (Int.toNat 1) (List.take (Int.toNat (a53.length:Int)) a53)),b54,out67))))
   (M.yt ((0:Int)<=1/\(1:Int)<=(b54.length:Int)/\(b54.length:Int)<=(b54.length:Int)) <|
   M.pure (.next ((a53,(List.drop (Int.toNat 1) (List.take (Int.toNat (b54.length:Int)) b54)),out67))))))
  (M.pure (.done out55)))
def YA(a1:List RN)(b2:List RN):M (List RN):=
 M.bind (M.det (xx a1)) fun v3=>
 M.bind (M.det (xx b2)) fun v5=>
 M.bind (M.loop Ze (v3,v5,([]:List RN))) (fun out7=>
 M.pure out7)
def uL(v6:List (Int×List RN)):List Nat×(List (Int×List RN))->M (M.Step (List Nat×(List (Int×List RN))) (List (Int×List RN))):=fun⟨seen32,v33⟩=>
 M.yt (∀ i∈seen32,i < v33.length)<|M.bind (M.nxt (v33.length) seen32) fun o=>match o with
 | none=>
  M.pure (.done v33)
 | some j34=>
  M.bind (M.idx v33 (Int.ofNat j34)) fun kv38=>
  M.bind (M.det (YA kv38.2 (AL.getZ v6 kv38.1 ([]:List RN)))) fun v40=>
  M.yt (AL.has v33 kv38.1=true) <|
  M.pure (.next ((seen32++[j34]),(AL.set v33 kv38.1 v40)))
def xn(a1:List PT)(b2:List PT):M (List PT):=
 M.bind (M.det (ud a1)) fun v3=>
 M.bind (M.det (ud b2)) fun v6=>
 M.bind (M.loop (uL v6) ([],v3)) (fun v9=>
 M.bind (M.det (ww v9)) fun v44=>
 M.pure v44)
def Xh(a1:List PT)(b2:List PT):M (List PT):=
 M.bind (M.det (xn a1 b2)) fun v3=>
 M.pure v3
def yA(s1:List DT):M (List DT):=
 M.bind (M.isNil s1) fun b2=>
 cond b2
  (M.pure ([]:List DT))
  (M.yt ((List.length ([]:List DT)+s1.length)*16<=140737488355328) <|
  M.pure (([]:List DT)++s1))
def yq(e1:EV):M EV:=
 M.bind (M.det (yA e1.kills)) fun v2=>
 M.pure (⟨e1.dot,e1.kind,e1.cid,e1.field,e1.text,v2⟩:EV)
def Zr(a1:DT)(b2:DT):M Int:=
 M.bind (M.det (xm a1.dev b2.dev)) fun v3=>
 cond (!decide (v3=0))
  (M.pure v3)
  (M.bind (M.det (xM a1.n b2.n)) fun v6=>
  M.pure v6)
def yr(n1:Int):M (List PT):=
 cond (decide (n1 < 0))
  M.fail
  (M.bind (cond ((decide (0 < ((IntKind.i64.wrap (n1 - (IntKind.i64.wrap (0 - 0))))))))
   (M.yt (0 < ((IntKind.i64.wrap (n1 - (IntKind.i64.wrap (0 - 0)))))/\((IntKind.i64.wrap (n1 - (IntKind.i64.wrap (0 - 0)))))*32<=140737488355328) <|
   M.yt ((0:Int)<=0/\(0:Int)<=0/\0<=(List.length ((List.replicate (Int.toNat ((IntKind.i64.wrap (n1 - (IntKind.i64.wrap (0 - 0)))))) (⟨0,([]:List RN)⟩:PT))):Int)) <|
   M.pure ((List.take (Int.toNat 0) ((List.replicate (Int.toNat ((IntKind.i64.wrap (n1 - (IntKind.i64.wrap (0 - 0)))))) (⟨0,([]:List RN)⟩:PT))))))
   (M.pure ([]))) (fun v3=>
  M.pure v3))
def zo(slices1:List (List PT)):Int×Int->M (M.Step (Int×Int) Int):=fun⟨size13,v14⟩=>
 cond ((decide (v14 < (slices1.length:Int))))
  (M.bind (M.idx slices1 v14) fun x16=>
  cond ((decide (((IntKind.i64.wrap (size13+(x16.length:Int)))) < 0)))
   M.fail
   (M.pure (.next (((IntKind.i64.wrap (size13+(x16.length:Int))),(IntKind.i64.wrap (v14+1)))))))
  (M.pure (.done size13))
def zp(slices1:List (List PT)):Int×List PT->M (M.Step (Int×List PT) (List PT)):=fun⟨v32,v33⟩=>
 cond ((decide (v32 < (slices1.length:Int))))
  (M.bind (M.idx slices1 v32) fun x35=>
  M.yt ((v33.length+x35.length)*32<=140737488355328) <|
  M.pure (.next (((IntKind.i64.wrap (v32+1)),(v33++x35)))))
  (M.pure (.done v33))
def xA(slices1:List (List PT)):M (List PT):=
 M.bind (M.loop (zo slices1) (0,0)) (fun size2=>
 M.bind (M.det (yr size2)) fun v19=>
 M.bind (M.loop (zp slices1) (0,v19)) (fun v21=>
 M.pure v21))
def Xi(a1:List PT)(b2:List PT):M (List PT):=
 M.bind (M.det (xA ([a1,b2]))) fun v3=>
 M.bind (M.det (vW v3)) fun v5=>
 M.pure v5
def wc(d1:DT):M Bool:=
 M.bind (cond (decide (0 < d1.dev))
  (cond (decide (0 < d1.n))
   (M.pure (decide (d1.n<=281474976710655)))
   (M.pure false))
  (M.pure false)) (fun v2=>
 M.pure v2)
def YW(v1:Int):M (Int×Int):=
 M.pure (((IntKind.u16.wrap (Int.fdiv v1 (2 ^ 48))),(bAnd .u64 v1 281474976710655)))
def Xj(v1:Int):M (DT×Bool):=
 M.bind (M.det (YW v1)) fun v2=>
 M.bind (M.det (wc (⟨v2.1,v2.2⟩:DT))) fun v4=>
 cond (!v4)
  (M.pure ((⟨0,0⟩:DT),false))
  (M.pure ((⟨v2.1,v2.2⟩:DT),true))
def Xk(f1:Int):M Bool:=
 M.bind (cond (decide (1<=f1))
  (M.pure (decide (f1<=5)))
  (M.pure false)) (fun v2=>
 M.pure v2)
def vX(s1:ByteArray):Int->M (M.Step Int (M.Ex Unit Bool)):=fun v20=>
 cond ((decide (v20 < (ByteArray.size s1:Int))))
  (M.bind (M.bind (M.idx (ua s1) v20) fun b23=>
  cond (decide (b23 < 32))
   (M.pure true)
   (M.bind (M.idx (ua s1) v20) fun b26=>
   M.pure (decide (126 < b26)))) (fun v22=>
  cond v22
   (M.pure (.done (.ret false)))
   (M.pure (.next (IntKind.i64.wrap (v20+1))))))
  (M.pure (.done (.brk ())))
def Xl(s1:ByteArray):M Bool:=
 cond ((decide (60 < (ByteArray.size s1:Int))))
  (M.pure false)
  (M.bind (M.loop (vX s1) 0) (M.exk (fun _=>
  M.pure true)))
def xP(l1:List DT):Int->M (M.Step Int (M.Ex Unit Bool)):=fun v23=>
 cond ((decide (v23 < (l1.length:Int))))
  (M.bind (cond (decide (0 < v23))
   (M.bind (M.idx l1 (IntKind.i64.wrap (v23 - 1))) fun x27=>
   M.bind (M.idx l1 v23) fun x29=>
   M.bind (M.det (Zr x27 x29)) fun v31=>
   M.pure (decide (0<=v31)))
   (M.pure false)) (fun v25=>
  cond v25
   (M.pure (.done (.ret false)))
   (M.pure (.next (IntKind.i64.wrap (v23+1))))))
  (M.pure (.done (.brk ())))
def Xm(l1:List DT):M Bool:=
 M.bind (M.loop (xP l1) 0) (M.exk (fun _=>
 M.pure true))
def vY(e1:EV):Int->M (M.Step Int (M.Ex Unit Bool)):=fun v43=>
 cond ((decide (v43 < (e1.kills.length:Int))))
  (M.bind (M.idx e1.kills v43) fun x45=>
  M.bind (M.bind (M.det (wc x45)) fun v48=>
  cond (!v48)
   (M.pure true)
   (M.pure (((decide (x45.dev=e1.dot.dev)&&decide (x45.n=e1.dot.n)))))) (fun v47=>
  cond v47
   (M.pure (.done (.ret false)))
   (M.pure (.next (IntKind.i64.wrap (v43+1))))))
  (M.pure (.done (.brk ())))
def vu(e1:EV):M Bool:=
 M.bind (M.det (Xj e1.cid)) fun v2=>
 M.bind (cond (!v2.2)
  (M.pure true)
  (M.bind (M.det (wc e1.dot)) fun v6=>
  M.pure (!v6))) (fun v4=>
 cond v4
  (M.pure false)
  (M.bind (cond (decide (e1.kind=1))
   (M.bind (M.bind (M.det (Xk e1.field)) fun v11=>
   cond (!v11)
    (M.pure true)
    (M.bind (M.det (Xl e1.text)) fun v14=>
    M.pure (!v14))) (fun v10=>
   cond v10
    (M.pure (.ret false))
    (M.pure (.brk ()))))
   (cond (decide (e1.kind=2))
    (M.bind (cond (!decide (e1.field=0))
     (M.pure true)
     (M.pure ((!decide (e1.text=(⟨#[]⟩:ByteArray)))))) (fun v18=>
    cond v18
     (M.pure (.ret false))
     (M.pure (.brk ()))))
    (M.pure (.ret false)))) (M.exk (fun _=>
  M.bind (cond ((decide (256 < (e1.kills.length:Int))))
   (M.pure true)
   (M.bind (M.det (Xm e1.kills)) fun v23=>
   M.pure (!v23))) (fun v21=>
  cond v21
   (M.pure false)
   (M.bind (M.loop (vY e1) 0) (M.exk (fun _=>
   M.pure true))))))))
def zw(row1:List DT)(k148:Int):Int×Int×List DT->M (M.Step (Int×Int×List DT) (Int×List DT)):=fun⟨k197,k2_198,v199⟩=>
 cond ((decide (k2_198 < ((((row1.length - Int.toNat k148):Nat):Int)))))
  (M.bind (M.yt ((0:Int)<=k2_198/\k2_198 < (((row1.length - Int.toNat k148):Nat):Int))<|M.bind (M.idx v199 ((((Int.toNat k148)+Int.toNat k2_198):Nat):Int)) fun x203=>
  M.yt ((0:Int)<=(IntKind.i64.wrap (k2_198 - 1))/\(IntKind.i64.wrap (k2_198 - 1)) < (((row1.length - Int.toNat k148):Nat):Int))<|M.bind (M.idx v199 ((((Int.toNat k148)+Int.toNat (IntKind.i64.wrap (k2_198 - 1))):Nat):Int)) fun x207=>
  cond ((!(decide (x203.dev=x207.dev)&&decide (x203.n=x207.n))))
   (M.yt ((0:Int)<=k2_198/\k2_198 < (((row1.length - Int.toNat k148):Nat):Int))<|M.bind (M.idx v199 ((((Int.toNat k148)+Int.toNat k2_198):Nat):Int)) fun x212=>
   M.bind (M.idx v199 k197) fun x216=>
   M.pure (((IntKind.i64.wrap (k197+1)),(List.set v199 (Int.toNat k197) x212))))
   (M.pure (k197,v199))) (fun⟨k201,v202⟩=>
  M.pure (.next ((k201,(IntKind.i64.wrap (k2_198+1)),v202)))))
  (M.pure (.done (k197,v199)))
def zx(row1:List DT):Int->M (M.Step Int (M.Ex Unit (List DT))):=fun k148=>
 cond ((decide (k148 < ((row1.length):Int))))
  (M.bind (M.bind (M.idx row1 k148) fun x150=>
  M.bind (M.idx row1 (IntKind.i64.wrap (k148 - 1))) fun x152=>
  cond (((decide (x150.dev=x152.dev)&&decide (x150.n=x152.n))))
   (M.yt ((0:Int)<=k148/\k148<=(row1.length:Int)) <|
   M.bind (M.loop (zw row1 k148) (k148,1,row1)) (fun⟨k156,v157⟩=>
   M.yt ((0:Int)<=k156/\k156<=(v157.length:Int)) <|
   M.yt ((Int.toNat k156)+(v157.length - Int.toNat k156)<=v157.length) <|
   M.yt ((0:Int)<=0/\(0:Int)<=k156/\k156<=(List.length ((List.take (Int.toNat k156) v157++List.replicate (v157.length - Int.toNat k156) (⟨0,0⟩:DT)++List.drop ((Int.toNat k156)+(v157.length - Int.toNat k156)) v157)):Int)) <|
   M.pure (.ret ((.done ((.ret (((List.take (Int.toNat k156) ((List.take (Int.toNat k156) v157++List.replicate (v157.length - Int.toNat k156) (⟨0,0⟩:DT)++List.drop ((Int.toNat k156)+(v157.length - Int.toNat k156)) v157))))))))))))
   (M.pure (.brk ()))) (M.exk (fun _=>
  M.pure (.next (IntKind.i64.wrap (k148+1))))))
  (M.pure (.done (.brk ())))
def yK(row1:List DT):M (List DT):=
 cond ((decide (((row1.length):Int) < 2)))
  (M.pure row1)
  (M.bind (M.loop (zx row1) 1) (M.exk (fun _=>
  M.pure row1)))
def VR(l1:List DT):M (List DT):=
 M.bind (M.det (yA l1)) fun v2=>
 M.yt (v2.length < 4611686018427387904)<|M.bind (M.srt zY v2) fun s4=>
 M.bind (M.det (yK s4)) fun y8=>
 M.pure y8
def ue(l1:List EV):Int×List DT->M (M.Step (Int×List DT) (List DT)):=fun⟨v15,out16⟩=>
 cond ((decide (v15 < (l1.length:Int))))
  (M.bind (M.idx l1 v15) fun x18=>
  M.yt ((out16.length+List.length ([x18.dot]))*16<=140737488355328) <|
  M.yt ((List.length (out16++[x18.dot])+x18.kills.length)*16<=140737488355328) <|
  M.pure (.next (((IntKind.i64.wrap (v15+1)),((out16++[x18.dot])++x18.kills)))))
  (M.pure (.done out16))
def ut(l1:List EV):M (List DT):=
 M.bind (M.loop (ue l1) (0,([]:List DT))) (fun out2=>
 M.bind (M.det (VR out2)) fun v22=>
 M.pure v22)
def ZC(x1:RN)(n2:Int):M Int:=
 M.bind (M.det (xM x1.hi n2)) fun v3=>
 M.pure v3
def zh(x1:List RN)(target2:Int):Int×Int->M (M.Step (Int×Int) Int):=fun⟨i18,j19⟩=>
 cond (decide (i18 < j19))
  (M.bind (M.idx x1 ((IntKind.i64.wrap ((Int.fdiv ((IntKind.u64.wrap (IntKind.i64.wrap (i18+j19)))) (2 ^ 1)))))) fun x21=>
  M.bind (M.det (ZC x21 target2)) fun v23=>
  cond (decide (v23 < 0))
   (M.pure (.next (((IntKind.i64.wrap (((IntKind.i64.wrap ((Int.fdiv ((IntKind.u64.wrap (IntKind.i64.wrap (i18+j19)))) (2 ^ 1)))))+1)),j19))))
   (M.pure (.next ((i18,(IntKind.i64.wrap ((Int.fdiv ((IntKind.u64.wrap (IntKind.i64.wrap (i18+j19)))) (2 ^ 1)))))))))
  (M.pure (.done i18))
def zW(x1:List RN)(target2:Int):M (Int×Bool):=
 M.bind (M.loop (zh x1 target2) (0,(x1.length:Int))) (fun i3=>
 M.bind (cond ((decide (i3 < (x1.length:Int))))
  (M.bind (M.idx x1 i3) fun x28=>
  M.bind (M.det (ZC x28 target2)) fun v30=>
  M.pure (decide (v30=0)))
  (M.pure false)) (fun v26=>
 M.pure (i3,v26)))
def Um(l1:List RN)(n2:Int):M Bool:=
 M.bind (M.det (xx l1)) fun v3=>
 M.bind (M.det (zW v3 n2)) fun v5=>
 M.bind (cond ((decide (v5.1 < (v3.length:Int))))
  (M.bind (M.idx v3 v5.1) fun x9=>
  M.pure (decide (x9.lo<=n2)))
  (M.pure false)) (fun v7=>
 M.pure v7)
def Un(c1:List PT)(dev2:Int):M (List RN):=
 M.bind (M.det (ud c1)) fun v3=>
 M.bind (M.det (xx (AL.getZ v3 dev2 ([]:List RN)))) fun v6=>
 M.pure v6
def XH(c1:List PT)(d2:DT):M Bool:=
 M.bind (cond (decide (0 < d2.dev))
  (M.bind (M.det (Un c1 d2.dev)) fun v5=>
  M.bind (M.det (Um v5 d2.n)) fun v7=>
  M.pure v7)
  (M.pure false)) (fun v3=>
 M.pure v3)
def YB(d:DT):Bool:=decide (0 < d.dev)&&(decide (0 < d.n)&&decide (d.n<=281474976710655))
theorem Ub(d:DT):wc d=M.pure (YB d):=by
 unfold wc YB;rw[M.zn,M.zn];rfl
def vv(d:DT):Option (Int×List RN):=if YB d then some (d.dev,[⟨d.n,d.n⟩]) else none
def xYa(l1:List DT):M (List PT):=
 M.yt (AL.growOK 16 (l1.length) (List.filterMap vv l1)) <|
 M.bind (M.det (ww ((AL.grow ([]:List (Int×List RN)) (List.filterMap vv l1))))) fun v17=>
 M.pure v17
def UG(c1:List PT)(l2:List DT):M (List PT):=
 M.bind (M.det (xYa l2)) fun v3=>
 M.bind (M.det (Xi c1 v3)) fun v5=>
 M.pure v5
def yd(s1:List DT)(v2:DT):Int->M (M.Step Int (M.Ex Unit Int)):=fun v12=>
 cond ((decide (v12 < (s1.length:Int))))
  (M.bind (M.idx s1 v12) fun x14=>
  cond (((decide (v2.dev=x14.dev)&&decide (v2.n=x14.n))))
   (M.pure (.done (.ret v12)))
   (M.pure (.next (IntKind.i64.wrap (v12+1)))))
  (M.pure (.done (.brk ())))
def xb(s1:List DT)(v2:DT):M Int:=
 M.bind (M.loop (yd s1 v2) 0) (M.exk (fun _=>
 M.pure (-1)))
def xF(s1:List DT)(v2:DT):M Bool:=
 M.bind (M.det (xb s1 v2)) fun v3=>
 M.pure (decide (0<=v3))
def QA(l1:List DT)(d2:DT):M Bool:=
 M.bind (M.det (xF l1 d2)) fun v3=>
 M.pure v3
def Wi(e1:EV)(d2:DT):M Bool:=
 M.bind (M.det (QA e1.kills d2)) fun v3=>
 M.pure v3
def uf(l1:List EV)(d2:DT):Int->M (M.Step Int (M.Ex Unit Bool)):=fun v16=>
 cond ((decide (v16 < (l1.length:Int))))
  (M.bind (M.idx l1 v16) fun x18=>
  M.bind (M.det (Wi x18 d2)) fun v20=>
  cond v20
   (M.pure (.done (.ret true)))
   (M.pure (.next (IntKind.i64.wrap (v16+1)))))
  (M.pure (.done (.brk ())))
def vR(l1:List EV)(d2:DT):M Bool:=
 M.bind (M.loop (uf l1 d2) 0) (M.exk (fun _=>
 M.pure false))
def ZW(s1_1:List RN)(s2_2:List RN):Int->M (M.Step Int (M.Ex Unit Bool)):=fun v17=>
 cond ((decide (v17 < (s1_1.length:Int))))
  (M.bind (M.idx s1_1 v17) fun x19=>
  M.bind (M.idx s2_2 v17) fun x21=>
  cond ((!(decide (x19.lo=x21.lo)&&decide (x19.hi=x21.hi))))
   (M.pure (.done (.ret false)))
   (M.pure (.next (IntKind.i64.wrap (v17+1)))))
  (M.pure (.done (.brk ())))
def yv(s1_1:List RN)(s2_2:List RN):M Bool:=
 cond ((!decide ((s1_1.length:Int)=(s2_2.length:Int))))
  (M.pure false)
  (M.bind (M.loop (ZW s1_1 s2_2) 0) (M.exk (fun _=>
  M.pure true)))
def jf(x1:PT)(y2:PT):M Bool:=
 M.bind (cond (decide (x1.dev=y2.dev))
  (M.bind (M.det (yv x1.runs y2.runs)) fun v5=>
  M.pure v5)
  (M.pure false)) (fun v3=>
 M.pure v3)
def zd(s1_1:List PT)(s2_2:List PT):Int->M (M.Step Int (M.Ex Unit Bool)):=fun v21=>
 cond ((decide (v21 < (s1_1.length:Int))))
  (M.bind (M.idx s1_1 v21) fun x23=>
  M.bind (M.idx s2_2 v21) fun x25=>
  M.bind (M.det (jf x23 x25)) fun v27=>
  cond (!v27)
   (M.pure (.done (.ret false)))
   (M.pure (.next (IntKind.i64.wrap (v21+1)))))
  (M.pure (.done (.brk ())))
def zi(s1_1:List PT)(s2_2:List PT):M Bool:=
 cond ((!decide ((s1_1.length:Int)=(s2_2.length:Int))))
  (M.pure false)
  (M.bind (M.loop (zd s1_1 s2_2) 0) (M.exk (fun _=>
  M.pure true)))
def zXa(a1:List PT)(b2:List PT):M Bool:=
 M.bind (M.det (zi a1 b2)) fun v3=>
 M.pure v3
def Xn(c1:List PT):M Bool:=
 M.bind (M.det (vW c1)) fun v2=>
 M.bind (M.det (zXa c1 v2)) fun v4=>
 M.pure v4
def ug(l1:List DT)(c2:List PT)(has3:Bool):Int×List DT->M (M.Step (Int×List DT) (List DT)):=fun⟨v23,out24⟩=>
 cond ((decide (v23 < (l1.length:Int))))
  (M.bind (M.bind (M.idx l1 v23) fun x27=>
  M.bind (M.det (XH c2 x27)) fun v29=>
  cond (v29==has3)
   (M.yt ((out24.length+List.length ([x27]))*16<=140737488355328) <|
   M.pure (out24++[x27]))
   (M.pure out24)) (fun out26=>
  M.pure (.next (((IntKind.i64.wrap (v23+1)),out26)))))
  (M.pure (.done out24))
def UH(l1:List DT)(c2:List PT)(has3:Bool):M (List DT):=
 M.bind (M.loop (ug l1 c2 has3) (0,([]:List DT))) (fun out4=>
 M.bind (M.det (VR out4)) fun v33=>
 M.pure v33)
def YC(l1:List DT)(c2:List PT):M (List DT):=
 M.bind (M.det (UH l1 c2 false)) fun v3=>
 M.pure v3
def Zf(v2:List RN):Int×Int×List RN->M (M.Step (Int×Int×List RN) (Int×List RN)):=fun⟨at17,v18,out19⟩=>
 cond ((decide (v18 < ((v2.length):Int))))
  (M.bind (M.idx v2 v18) fun x21=>
  M.yt ((out19.length+List.length ([(⟨at17,(IntKind.u64.wrap (x21.lo - 1))⟩:RN)]))*16<=140737488355328) <|
  M.pure (.next (((IntKind.u64.wrap (x21.hi+1)),(IntKind.i64.wrap (v18+1)),(out19++[(⟨at17,(IntKind.u64.wrap (x21.lo - 1))⟩:RN)])))))
  (M.pure (.done (at17,out19)))
def VS(l1:List RN):M (List RN):=
 M.bind (M.det (xx l1)) fun v2=>
 M.bind (M.loop (Zf v2) (1,0,([]:List RN))) (fun⟨at4,out5⟩=>
 M.yt ((out5.length+List.length ([(⟨at4,281474976710655⟩:RN)]))*16<=140737488355328) <|
 M.pure (out5++[(⟨at4,281474976710655⟩:RN)]))
def YD(a1:List RN)(b2:List RN):M (List RN):=
 M.bind (M.det (VS b2)) fun v3=>
 M.bind (M.det (YA a1 v3)) fun v5=>
 M.pure v5
def vo(v6:List (Int×List RN)):List Nat×(List (Int×List RN))->M (M.Step (List Nat×(List (Int×List RN))) (List (Int×List RN))):=fun⟨seen32,v33⟩=>
 M.yt (∀ i∈seen32,i < v33.length)<|M.bind (M.nxt (v33.length) seen32) fun o=>match o with
 | none=>
  M.pure (.done v33)
 | some j34=>
  M.bind (M.idx v33 (Int.ofNat j34)) fun kv38=>
  M.bind (M.det (YD kv38.2 (AL.getZ v6 kv38.1 ([]:List RN)))) fun v40=>
  M.yt (AL.has v33 kv38.1=true) <|
  M.pure (.next ((seen32++[j34]),(AL.set v33 kv38.1 v40)))
def vK(a1:List PT)(b2:List PT):M (List PT):=
 M.bind (M.det (ud a1)) fun v3=>
 M.bind (M.det (ud b2)) fun v6=>
 M.bind (M.loop (vo v6) ([],v3)) (fun v9=>
 M.bind (M.det (ww v9)) fun v44=>
 M.pure v44)
def VT(a1:List PT)(b2:List PT):M (List PT):=
 M.bind (M.det (vK a1 b2)) fun v3=>
 M.pure v3
def YE(a1:List PT)(b2:List PT):M Bool:=
 M.bind (M.det (VT a1 b2)) fun v3=>
 M.pure ((decide (((v3.length):Int)=0)))
def vZ(d1:DL):Int->M (M.Step Int (M.Ex Unit Bool)):=fun v58=>
 cond ((decide (v58 < (d1.events.length:Int))))
  (M.bind (M.idx d1.events v58) fun x60=>
  M.bind (M.bind (M.det (vu x60)) fun v63=>
  cond (!v63)
   (M.pure true)
   (M.bind (M.det (XH d1.from_ x60.dot)) fun v66=>
   M.pure v66)) (fun v62=>
  cond v62
   (M.pure (.done (.ret false)))
   (M.bind (cond (decide (0 < v58))
    (M.bind (M.idx d1.events (IntKind.i64.wrap (v58 - 1))) fun x71=>
    M.bind (M.det (Zr x71.dot x60.dot)) fun v73=>
    M.pure (decide (0<=v73)))
    (M.pure false)) (fun v69=>
   cond v69
    (M.pure (.done (.ret false)))
    (M.bind (cond (decide (x60.kind=1))
     (M.bind (M.det (vR d1.events x60.dot)) fun v78=>
     M.pure v78)
     (M.pure false)) (fun v76=>
    cond v76
     (M.pure (.done (.ret false)))
     (M.pure (.next (IntKind.i64.wrap (v58+1))))))))))
  (M.pure (.done (.brk ())))
def Xo(d1:DL):M Bool:=
 M.bind (M.bind (M.det (Xn d1.from_)) fun v3=>
 cond (!v3)
  (M.pure true)
  (M.bind (M.det (Xn d1.to_)) fun v6=>
  cond (!v6)
   (M.pure true)
   (M.bind (M.det (YE d1.from_ d1.to_)) fun v9=>
   cond (!v9)
    (M.pure true)
    (M.pure ((decide (4096 < (d1.events.length:Int)))))))) (fun v2=>
 cond v2
  (M.pure false)
  (M.bind (M.loop (vZ d1) 0) (M.exk (fun _=>
  M.bind (M.det (ut d1.events)) fun v81=>
  M.bind (M.det (YC v81 d1.to_)) fun v83=>
  M.pure ((decide ((v83.length:Int)=0)))))))
def Uo(a1:List PT)(b2:List PT):M Bool:=
 M.bind (M.det (vW a1)) fun v3=>
 M.bind (M.det (vW b2)) fun v5=>
 M.bind (M.det (zXa v3 v5)) fun v7=>
 M.pure v7
def ZX(s1_1:List DT)(s2_2:List DT):Int->M (M.Step Int (M.Ex Unit Bool)):=fun v17=>
 cond ((decide (v17 < (s1_1.length:Int))))
  (M.bind (M.idx s1_1 v17) fun x19=>
  M.bind (M.idx s2_2 v17) fun x21=>
  cond ((!(decide (x19.dev=x21.dev)&&decide (x19.n=x21.n))))
   (M.pure (.done (.ret false)))
   (M.pure (.next (IntKind.i64.wrap (v17+1)))))
  (M.pure (.done (.brk ())))
def yw(s1_1:List DT)(s2_2:List DT):M Bool:=
 cond ((!decide ((s1_1.length:Int)=(s2_2.length:Int))))
  (M.pure false)
  (M.bind (M.loop (ZX s1_1 s2_2) 0) (M.exk (fun _=>
  M.pure true)))
def Uq(a1:List DT)(b2:List DT):M Bool:=
 M.bind (M.det (yw a1 b2)) fun v3=>
 M.pure v3
def Xp(a1:EV)(b2:EV):M Bool:=
 M.bind (cond (((decide (a1.dot.dev=b2.dot.dev)&&decide (a1.dot.n=b2.dot.n))))
  (cond (decide (a1.kind=b2.kind))
   (cond (decide (a1.cid=b2.cid))
    (cond (decide (a1.field=b2.field))
     (cond (decide (a1.text=b2.text))
      (M.bind (M.det (Uq a1.kills b2.kills)) fun v9=>
      M.pure v9)
      (M.pure false))
     (M.pure false))
    (M.pure false))
   (M.pure false))
  (M.pure false)) (fun v3=>
 M.pure v3)
def zR(s1_1:List EV)(s2_2:List EV):Int->M (M.Step Int (M.Ex Unit Bool)):=fun v21=>
 cond ((decide (v21 < (s1_1.length:Int))))
  (M.bind (M.idx s1_1 v21) fun x23=>
  M.bind (M.idx s2_2 v21) fun x25=>
  M.bind (M.det (Xp x23 x25)) fun v27=>
  cond (!v27)
   (M.pure (.done (.ret false)))
   (M.pure (.next (IntKind.i64.wrap (v21+1)))))
  (M.pure (.done (.brk ())))
def ze(s1_1:List EV)(s2_2:List EV):M Bool:=
 cond ((!decide ((s1_1.length:Int)=(s2_2.length:Int))))
  (M.pure false)
  (M.bind (M.loop (zR s1_1 s2_2) 0) (M.exk (fun _=>
  M.pure true)))
def VU(a1:List EV)(b2:List EV):M Bool:=
 M.bind (M.det (ze a1 b2)) fun v3=>
 M.pure v3
def vw :M (List PT×Bool×(List (DT×EV))×Bool×(List (DT×EV))):=
 M.pure ((([]:List PT),true,([]:List (DT×EV)),true,([]:List (DT×EV))))
def xK(e1:EV)(nl2:Bool)(m3:List (DT×EV)):M (Bool×(List (DT×EV))):=
 M.bind (cond nl2
  (M.pure ([]:List (DT×EV)))
  (M.pure m3)) (fun v4=>
 M.bind (M.det (yq e1)) fun v9=>
 M.pure (false,(AL.set v4 e1.dot v9)))
def xR(e1:EV):Int×(List (DT×EV))->M (M.Step (Int×(List (DT×EV))) (List (DT×EV))):=fun⟨v26,v27⟩=>
 cond ((decide (v26 < (e1.kills.length:Int))))
  (M.bind (M.idx e1.kills v26) fun x29=>
  M.pure (.next (((IntKind.i64.wrap (v26+1)),(AL.del v27 x29)))))
  (M.pure (.done v27))
def yQ(e1:EV)(ctx_2:List PT)(nl3:Bool)(m4:List (DT×EV))(nl5:Bool)(m6:List (DT×EV)):M (Int×List PT×Bool×(List (DT×EV))×Bool×(List (DT×EV))):=
 M.bind (M.det (vu e1)) fun v7=>
 cond (!v7)
  (M.pure (1,ctx_2,nl3,m4,nl5,m6))
  (M.bind (M.det (XH ctx_2 e1.dot)) fun v10=>
  cond v10
   (M.pure (7,ctx_2,nl3,m4,nl5,m6))
   (M.bind (M.det (ut ([e1]))) fun v13=>
   M.bind (M.det (UG ctx_2 v13)) fun v15=>
   M.bind (M.loop (xR e1) (0,m4)) (fun v17=>
   M.bind (cond (decide (e1.kind=1))
    (M.bind (M.det (xK e1 nl3 v17)) fun y36=>
    M.pure (nl5,m6,y36.1,y36.2))
    (M.bind (M.det (xK e1 nl5 m6)) fun y38=>
    M.pure (y38.1,y38.2,nl3,v17))) (fun⟨nl31,v32,nl33,v34⟩=>
   M.pure (0,v15,nl33,v34,nl31,v32)))))
def yY(ctx_1:List PT)(nl2:Bool)(m3:List (DT×EV))(nl4:Bool)(m5:List (DT×EV)):M (List PT):=
 M.bind (M.det (vW ctx_1)) fun v6=>
 M.pure v6
def XI(m2:List (DT×EV)):List Nat×List EV->M (M.Step (List Nat×List EV) (List EV)):=fun⟨seen32,out33⟩=>
 M.yt (∀ i∈seen32,i < m2.length)<|M.bind (M.nxt (m2.length) seen32) fun o=>match o with
 | none=>
  M.pure (.done out33)
 | some j34=>
  M.bind (M.idx m2 (Int.ofNat j34)) fun kv38=>
  M.bind (M.det (yq kv38.2)) fun v40=>
  M.yt ((out33.length+List.length ([v40]))*80<=140737488355328) <|
  M.pure (.next ((seen32++[j34]),(out33++[v40])))
def XJ(m4:List (DT×EV)):List Nat×List EV->M (M.Step (List Nat×List EV) (List EV)):=fun⟨seen70,out71⟩=>
 M.yt (∀ i∈seen70,i < m4.length)<|M.bind (M.nxt (m4.length) seen70) fun o=>match o with
 | none=>
  M.pure (.done out71)
 | some j72=>
  M.bind (M.idx m4 (Int.ofNat j72)) fun kv76=>
  M.bind (M.det (yq kv76.2)) fun v78=>
  M.yt ((out71.length+List.length ([v78]))*80<=140737488355328) <|
  M.pure (.next ((seen70++[j72]),(out71++[v78])))
def uM(nl1:Bool)(m2:List (DT×EV))(nl3:Bool)(m4:List (DT×EV)):M (List EV):=
 M.bind (M.bind (M.loop (XI m2) ([],([]:List EV))) (fun out8=>
 M.bind (M.loop (XJ m4) ([],out8)) (fun out46=>
 M.pure out46))) (fun out5=>
 M.yt (out5.length < 4611686018427387904)<|M.bind (M.srt Zq out5) fun s82=>
 M.pure s82)
def ym(ctx_1:List PT)(nl2:Bool)(m3:List (DT×EV))(nl4:Bool)(m5:List (DT×EV)):M (List EV):=
 M.bind (M.det (uM nl2 m3 nl4 m5)) fun y6=>
 M.pure y6
def xZ(e1:EV)(cv2:List PT):M Bool:=
 M.bind (M.det (XH cv2 e1.dot)) fun v3=>
 M.pure v3
def za(s1:List EV)(cv2:List PT):Int->M (M.Step Int (M.Ex Unit Int)):=fun v16=>
 cond ((decide (v16 < (s1.length:Int))))
  (M.bind (M.idx s1 v16) fun x18=>
  M.bind (M.det (xZ x18 cv2)) fun v20=>
  cond v20
   (M.pure (.done (.ret v16)))
   (M.pure (.next (IntKind.i64.wrap (v16+1)))))
  (M.pure (.done (.brk ())))
def zg(s1:List EV)(cv2:List PT):M Int:=
 M.bind (M.loop (za s1 cv2) 0) (M.exk (fun _=>
 M.pure (-1)))
def zX(cv1:List PT):Int×Int×List EV->M (M.Step (Int×Int×List EV) (Int×List EV)):=fun⟨i31,j32,v33⟩=>
 cond ((decide (j32 < ((v33.length):Int))))
  (M.bind (M.bind (M.idx v33 j32) fun x37=>
  M.bind (M.det (xZ x37 cv1)) fun v39=>
  cond (!v39)
   (M.bind (M.idx v33 i31) fun x42=>
   M.pure (((IntKind.i64.wrap (i31+1)),(List.set v33 (Int.toNat i31) x37))))
   (M.pure (i31,v33))) (fun⟨i35,v36⟩=>
  M.pure (.next ((i35,(IntKind.i64.wrap (j32+1)),v36)))))
  (M.pure (.done (i31,v33)))
def zM(cv1:List PT)(row2:List EV):M (List EV):=
 M.bind (M.det (zg row2 cv1)) fun v3=>
 cond ((decide (v3=(-1))))
  (M.pure row2)
  (M.bind (M.loop (zX cv1) ((v3,(IntKind.i64.wrap (v3+1)),row2))) (fun⟨i6,v7⟩=>
  M.yt ((0:Int)<=i6/\i6<=(v7.length:Int)) <|
  M.yt ((Int.toNat i6)+(v7.length - Int.toNat i6)<=v7.length) <|
  M.yt ((0:Int)<=0/\(0:Int)<=i6/\i6<=(List.length ((List.take (Int.toNat i6) v7++List.replicate (v7.length - Int.toNat i6) (⟨(⟨0,0⟩:DT),0,0,0,(⟨#[]⟩:ByteArray),([]:List DT)⟩:EV)++List.drop ((Int.toNat i6)+(v7.length - Int.toNat i6)) v7)):Int)) <|
  M.pure ((List.take (Int.toNat i6) ((List.take (Int.toNat i6) v7++List.replicate (v7.length - Int.toNat i6) (⟨(⟨0,0⟩:DT),0,0,0,(⟨#[]⟩:ByteArray),([]:List DT)⟩:EV)++List.drop ((Int.toNat i6)+(v7.length - Int.toNat i6)) v7))))))
def xd(from1:List PT)(ctx_2:List PT)(nl3:Bool)(m4:List (DT×EV))(nl5:Bool)(m6:List (DT×EV)):M DL:=
 M.bind (M.det (yY ctx_2 nl3 m4 nl5 m6)) fun y7=>
 M.bind (M.det (Xh from1 y7)) fun v9=>
 M.bind (M.det (ym ctx_2 nl3 m4 nl5 m6)) fun y11=>
 M.bind (M.det (zM from1 y11)) fun y13=>
 M.pure (⟨v9,y7,y13⟩:DL)
def yy(c1:List PT)(ctx_2:List PT)(nl3:Bool)(m4:List (DT×EV))(nl5:Bool)(m6:List (DT×EV)):M (List PT):=
 M.bind (M.det (Xi ctx_2 c1)) fun v7=>
 M.pure v7
def xg(d1:DL):Int×List PT×Bool×(List (DT×EV))×Bool×(List (DT×EV))->M (M.Step (Int×List PT×Bool×(List (DT×EV))×Bool×(List (DT×EV))) (List PT×Bool×(List (DT×EV))×Bool×(List (DT×EV)))):=fun⟨v36,v37,nl38,v39,nl40,v41⟩=>
 cond ((decide (v36 < (d1.events.length:Int))))
  (M.bind (M.idx d1.events v36) fun x43=>
  M.bind (M.det (yQ x43 v37 nl40 v41 nl38 v39)) fun y45=>
  M.pure (.next (((IntKind.i64.wrap (v36+1)),y45.2.1,y45.2.2.2.2.1,y45.2.2.2.2.2,y45.2.2.1,y45.2.2.2.1))))
  (M.pure (.done (v37,nl38,v39,nl40,v41)))
def yj(d1:DL)(ctx_2:List PT)(nl3:Bool)(m4:List (DT×EV))(nl5:Bool)(m6:List (DT×EV)):M (Int×List PT×Bool×(List (DT×EV))×Bool×(List (DT×EV))):=
 M.bind (M.det (Xo d1)) fun v7=>
 cond (!v7)
  (M.pure (1,ctx_2,nl3,m4,nl5,m6))
  (M.bind (M.det (yY ctx_2 nl3 m4 nl5 m6)) fun y10=>
  M.bind (M.det (YE d1.from_ y10)) fun v12=>
  cond (!v12)
   (M.pure (12,ctx_2,nl3,m4,nl5,m6))
   (M.bind (M.loop (xg d1) (0,ctx_2,nl5,m6,nl3,m4)) (fun⟨v15,nl16,v17,nl18,v19⟩=>
   M.bind (M.det (yy d1.to_ v15 nl18 v19 nl16 v17)) fun y47=>
   M.pure (0,y47,nl18,v19,nl16,v17))))
def XK(m2:List (DT×EV)):List Nat×List EV->M (M.Step (List Nat×List EV) (List EV)):=fun⟨seen30,out31⟩=>
 M.yt (∀ i∈seen30,i < m2.length)<|M.bind (M.nxt (m2.length) seen30) fun o=>match o with
 | none=>
  M.pure (.done out31)
 | some j32=>
  M.bind (M.idx m2 (Int.ofNat j32)) fun kv36=>
  M.bind (M.det (yq kv36.2)) fun v38=>
  M.yt ((out31.length+List.length ([v38]))*80<=140737488355328) <|
  M.pure (.next ((seen30++[j32]),(out31++[v38])))
def uN(nl1:Bool)(m2:List (DT×EV)):M (List EV):=
 M.bind (M.bind (M.loop (XK m2) ([],([]:List EV))) (fun out6=>
 M.pure out6)) (fun out3=>
 M.yt (out3.length < 4611686018427387904)<|M.bind (M.srt Zq out3) fun s42=>
 M.pure s42)
def xh(ctx_1:List PT)(nl2:Bool)(m3:List (DT×EV))(nl4:Bool)(m5:List (DT×EV)):M (List EV):=
 M.bind (M.det (uN nl2 m3)) fun y6=>
 M.pure y6
def vy(ctx_1:List PT)(ctx_2:List PT)(nl3:Bool)(m4:List (DT×EV))(nl5:Bool)(m6:List (DT×EV))(nl7:Bool)(m8:List (DT×EV))(nl9:Bool)(m10:List (DT×EV)):M Bool:=
 M.bind (M.bind (M.det (yY ctx_1 nl3 m4 nl5 m6)) fun y12=>
 M.bind (M.det (yY ctx_2 nl7 m8 nl9 m10)) fun y14=>
 M.bind (M.det (Uo y12 y14)) fun v16=>
 cond v16
  (M.bind (M.det (ym ctx_1 nl3 m4 nl5 m6)) fun y19=>
  M.bind (M.det (ym ctx_2 nl7 m8 nl9 m10)) fun y21=>
  M.bind (M.det (VU y19 y21)) fun v23=>
  M.pure v23)
  (M.pure false)) (fun v11=>
 M.pure v11)
def XL :M Bool:=
 M.bind (M.det (vw)) fun y1=>
 M.bind (M.det (vw)) fun y3=>
 M.bind (M.det (yQ (⟨(⟨1,1⟩:DT),1,281474976710657,1,(⟨#[97]⟩:ByteArray),([]:List DT)⟩:EV) y1.1 y1.2.1 y1.2.2.1 y1.2.2.2.1 y1.2.2.2.2)) fun y5=>
 M.bind (M.det (xd ([]:List PT) y5.2.1 y5.2.2.1 y5.2.2.2.1 y5.2.2.2.2.1 y5.2.2.2.2.2)) fun y7=>
 M.bind (M.det (yj y7 y3.1 y3.2.1 y3.2.2.1 y3.2.2.2.1 y3.2.2.2.2)) fun y9=>
 M.bind (M.det (yj y7 y9.2.1 y9.2.2.1 y9.2.2.2.1 y9.2.2.2.2.1 y9.2.2.2.2.2)) fun y11=>
 M.bind (cond (decide (y5.1=0))
  (cond (decide (y9.1=0))
   (cond (decide (y11.1=0))
    (cond ((decide ((y7.events.length:Int)=1)))
     (M.bind (M.det (xh y11.2.1 y11.2.2.1 y11.2.2.2.1 y11.2.2.2.2.1 y11.2.2.2.2.2)) fun y18=>
     cond ((decide (((y18.length):Int)=1)))
      (M.bind (M.det (vy y5.2.1 y11.2.1 y5.2.2.1 y5.2.2.2.1 y5.2.2.2.2.1 y5.2.2.2.2.2 y11.2.2.1 y11.2.2.2.1 y11.2.2.2.2.1 y11.2.2.2.2.2)) fun y21=>
      M.pure y21)
      (M.pure false))
     (M.pure false))
    (M.pure false))
   (M.pure false))
  (M.pure false)) (fun v13=>
 M.pure v13)
def jg(x1:RN):M Bool:=
 M.bind (cond (decide (1<=x1.lo))
  (cond (decide (x1.lo<=x1.hi))
   (M.pure (decide (x1.hi<=281474976710655)))
   (M.pure false))
  (M.pure false)) (fun v2=>
 M.pure v2)
def Xq(l1:List RN)(n2:Int):Int->M (M.Step Int (M.Ex Unit Bool)):=fun i30=>
 cond ((decide (i30 < (l1.length:Int))))
  (M.bind (M.bind (M.idx l1 i30) fun x33=>
  M.bind (M.det (jg x33)) fun v35=>
  cond v35
   (M.bind (M.idx l1 i30) fun x38=>
   cond (decide (x38.lo<=n2))
    (M.bind (M.idx l1 i30) fun x41=>
    M.pure (decide (n2<=x41.hi)))
    (M.pure false))
   (M.pure false)) (fun v32=>
  cond v32
   (M.pure (.done (.ret true)))
   (M.pure (.next (IntKind.i64.wrap (i30+1))))))
  (M.pure (.done (.brk ())))
def UI(l1:List RN)(n2:Int):M Bool:=
 M.bind (M.loop (Xq l1 n2) 0) (M.exk (fun _=>
 M.pure false))
def Xr(l1:List Int)(n2:Int):Bool×Int×List Int->M (M.Step (Bool×Int×List Int) (Bool×List Int)):=fun⟨done43,i44,out45⟩=>
 cond ((decide (i44 < (l1.length:Int))))
  (M.bind (M.bind (cond (!done43)
   (M.bind (M.idx l1 i44) fun x51=>
   M.pure (decide (n2<=x51)))
   (M.pure false)) (fun v49=>
  M.bind (cond v49
   (M.yt ((out45.length+List.length ([n2]))*8<=140737488355328) <|
   M.pure (true,(out45++[n2])))
   (M.pure (done43,out45))) (fun⟨done53,out54⟩=>
  M.bind (M.idx l1 i44) fun x57=>
  cond (!decide (x57=n2))
   (M.bind (M.idx l1 i44) fun x60=>
   M.yt ((out54.length+List.length ([x60]))*8<=140737488355328) <|
   M.pure (done53,(out54++[x60])))
   (M.pure (done53,out54))))) (fun⟨done47,out48⟩=>
  M.pure (.next ((done47,(IntKind.i64.wrap (i44+1)),out48)))))
  (M.pure (.done (done43,out45)))
def jh(l1:List Int)(n2:Int):M (List Int):=
 M.bind (M.loop (Xr l1 n2) (false,0,([]:List Int))) (fun⟨done3,out4⟩=>
 M.bind (cond (!done3)
  (M.yt ((out4.length+List.length ([n2]))*8<=140737488355328) <|
  M.pure (out4++[n2]))
  (M.pure out4)) (fun out63=>
 M.pure out63))
def uh(a1:List RN)(b2:List RN):List Int×Int->M (M.Step (List Int×Int) (List Int)):=fun⟨out38,i39⟩=>
 cond ((decide (i39 < (((List.length ((([]:List RN)++a1)++b2)):Int)))))
  (M.bind (M.bind (M.idx (((([]:List RN)++a1)++b2)) i39) fun x42=>
  M.bind (M.det (jg x42)) fun v44=>
  cond v44
   (M.bind (M.idx (((([]:List RN)++a1)++b2)) i39) fun x47=>
   M.bind (M.det (jh out38 x47.lo)) fun v49=>
   M.bind (M.idx (((([]:List RN)++a1)++b2)) i39) fun x51=>
   M.bind (M.det (jh v49 (IntKind.u64.wrap (x51.hi+1)))) fun v53=>
   M.pure v53)
   (M.pure out38)) (fun out41=>
  M.pure (.next ((out41,(IntKind.i64.wrap (i39+1)))))))
  (M.pure (.done out38))
def Xs(a1:List RN)(b2:List RN):M (List Int):=
 M.yt ((List.length ([]:List RN)+a1.length)*16<=140737488355328) <|
 M.yt ((List.length (([]:List RN)++a1)+b2.length)*16<=140737488355328) <|
 M.bind (M.loop (uh a1 b2) (([]:List Int),0)) (fun out5=>
 M.pure out5)
def Xt(v4:List Int)(a1:List RN)(b2:List RN)(how3:Int):Int×List RN->M (M.Step (Int×List RN) (List RN)):=fun⟨i85,out86⟩=>
 cond ((decide ((IntKind.i64.wrap (i85+1)) < (v4.length:Int))))
  (M.bind (M.bind (M.idx v4 i85) fun x89=>
  M.bind (M.det (UI a1 x89)) fun v91=>
  M.bind (M.idx v4 i85) fun x93=>
  M.bind (M.det (UI b2 x93)) fun v95=>
  M.bind (cond v91
   (M.pure true)
   (M.pure v95)) (fun in97=>
  M.bind (cond (decide (how3=1))
   (M.bind (cond v91
    (M.pure v95)
    (M.pure false)) (fun in101=>
   M.pure in101))
   (M.pure in97)) (fun in99=>
  M.bind (cond (decide (how3=2))
   (M.bind (cond v91
    (M.pure (!v95))
    (M.pure false)) (fun in105=>
   M.pure in105))
   (M.pure in99)) (fun in103=>
  M.bind (cond in103
   (cond ((decide (0<=((IntKind.i64.wrap (((out86.length):Int) - 1))))))
    (M.bind (M.idx out86 ((IntKind.i64.wrap (((out86.length):Int) - 1)))) fun x110=>
    M.bind (M.idx v4 i85) fun x112=>
    M.pure ((decide ((IntKind.u64.wrap (x110.hi+1))=x112))))
    (M.pure false))
   (M.pure false)) (fun v107=>
  cond v107
   (M.bind (M.idx v4 (IntKind.i64.wrap (i85+1))) fun x115=>
   M.bind (M.idx out86 ((IntKind.i64.wrap (((out86.length):Int) - 1)))) fun x117=>
   M.pure ((List.set out86 ((Int.toNat ((IntKind.i64.wrap (((out86.length):Int) - 1))))) ((⟨x117.lo,(IntKind.u64.wrap (x115 - 1))⟩:RN)))))
   (cond in103
    (M.bind (M.idx v4 i85) fun x120=>
    M.bind (M.idx v4 (IntKind.i64.wrap (i85+1))) fun x122=>
    M.yt ((out86.length+List.length ([(⟨x120,(IntKind.u64.wrap (x122 - 1))⟩:RN)]))*16<=140737488355328) <|
    M.pure ((out86++[(⟨x120,(IntKind.u64.wrap (x122 - 1))⟩:RN)])))
    (M.pure out86))))))) (fun out88=>
  M.pure (.next (((IntKind.i64.wrap (i85+1)),out88)))))
  (M.pure (.done out86))
def UJ(a1:List RN)(b2:List RN)(how3:Int):M (List RN):=
 M.bind (M.det (Xs a1 b2)) fun v4=>
 M.bind (M.loop (Xt v4 a1 b2 how3) (0,([]:List RN))) (fun out6=>
 M.pure out6)
def VV(a1:List RN)(b2:List RN):M (List RN):=
 M.bind (M.det (UJ a1 b2 0)) fun v3=>
 M.pure v3
def YX(c1:List PT)(dev2:Int):List RN×Int->M (M.Step (List RN×Int) (List RN)):=fun⟨out28,i29⟩=>
 cond ((decide (i29 < (c1.length:Int))))
  (M.bind (M.bind (M.bind (M.idx c1 i29) fun x33=>
  cond (decide (x33.dev=dev2))
   (M.pure (!decide (dev2=0)))
   (M.pure false)) (fun v32=>
  cond v32
   (M.bind (M.idx c1 i29) fun x37=>
   M.bind (M.det (VV out28 x37.runs)) fun v39=>
   M.pure v39)
   (M.pure out28))) (fun out31=>
  M.pure (.next ((out31,(IntKind.i64.wrap (i29+1)))))))
  (M.pure (.done out28))
def Xu(c1:List PT)(dev2:Int):M (List RN):=
 M.bind (M.loop (YX c1 dev2) (([]:List RN),0)) (fun out3=>
 M.pure out3)
def Zg(d1:DT):M Bool:=
 M.bind (cond (decide (1<=d1.dev))
  (cond (decide (1<=d1.n))
   (M.pure (decide (d1.n < 281474976710656)))
   (M.pure false))
  (M.pure false)) (fun v2=>
 M.pure v2)
def Zs(c1:List PT)(d2:DT):M Bool:=
 M.bind (M.bind (M.det (Zg d2)) fun v4=>
 cond v4
  (M.bind (M.det (Xu c1 d2.dev)) fun v7=>
  M.bind (M.det (UI v7 d2.n)) fun v9=>
  M.pure v9)
  (M.pure false)) (fun v3=>
 M.pure v3)
def Xv(l1:List DT)(d2:DT):Int->M (M.Step Int (M.Ex Unit Bool)):=fun i12=>
 cond ((decide (i12 < (l1.length:Int))))
  (M.bind (M.idx l1 i12) fun x14=>
  cond (((decide (x14.dev=d2.dev)&&decide (x14.n=d2.n))))
   (M.pure (.done (.ret true)))
   (M.pure (.next (IntKind.i64.wrap (i12+1)))))
  (M.pure (.done (.brk ())))
def UK(l1:List DT)(d2:DT):M Bool:=
 M.bind (M.loop (Xv l1 d2) 0) (M.exk (fun _=>
 M.pure false))
def VW(v1:Int):M (Int×Int):=
 M.pure (((IntKind.u16.wrap (IntKind.u64.wrap (Int.tdiv v1 281474976710656))),(Int.tmod v1 281474976710656)))
def Xw(v1:Int):M (DT×Bool):=
 M.bind (M.det (VW v1)) fun v2=>
 M.bind (M.det (Zg (⟨v2.1,v2.2⟩:DT))) fun v4=>
 cond (!v4)
  (M.pure ((⟨0,0⟩:DT),false))
  (M.pure ((⟨v2.1,v2.2⟩:DT),true))
def Ur(f1:Int):M Bool:=
 M.bind (cond (decide (1<=f1))
  (M.pure (decide (f1<=5)))
  (M.pure false)) (fun v2=>
 M.pure v2)
def ZD(s1:ByteArray):Int->M (M.Step Int (M.Ex Unit Bool)):=fun i19=>
 cond ((decide (i19 < (ByteArray.size s1:Int))))
  (M.bind (M.bind (M.idx (ua s1) i19) fun b22=>
  cond (decide (b22 < 32))
   (M.pure true)
   (M.bind (M.idx (ua s1) i19) fun b25=>
   M.pure (decide (126 < b25)))) (fun v21=>
  cond v21
   (M.pure (.done (.ret false)))
   (M.pure (.next (IntKind.i64.wrap (i19+1))))))
  (M.pure (.done (.brk ())))
def Us(s1:ByteArray):M Bool:=
 M.bind (M.loop (ZD s1) 0) (M.exk (fun _=>
 M.pure ((decide ((ByteArray.size s1:Int)<=60)))))
def Wj(a1:DT)(b2:DT):M Int:=
 cond (((decide (a1.dev=b2.dev)&&decide (a1.n=b2.n))))
  (M.pure 0)
  (M.bind (cond (decide (a1.dev < b2.dev))
   (M.pure true)
   (cond (decide (a1.dev=b2.dev))
    (M.pure (decide (a1.n < b2.n)))
    (M.pure false))) (fun v4=>
  cond v4
   (M.pure (-1))
   (M.pure 1)))
def wd(l1:List DT):Int->M (M.Step Int (M.Ex Unit Bool)):=fun i19=>
 cond ((decide (i19 < (l1.length:Int))))
  (M.bind (M.idx l1 (IntKind.i64.wrap (i19 - 1))) fun x21=>
  M.bind (M.idx l1 i19) fun x23=>
  M.bind (M.det (Wj x21 x23)) fun v25=>
  cond (decide (0<=v25))
   (M.pure (.done (.ret false)))
   (M.pure (.next (IntKind.i64.wrap (i19+1)))))
  (M.pure (.done (.brk ())))
def Xx(l1:List DT):M Bool:=
 M.bind (M.loop (wd l1) 1) (M.exk (fun _=>
 M.pure true))
def ZE(e1:EV):Int->M (M.Step Int (M.Ex Unit Bool)):=fun i37=>
 cond ((decide (i37 < (e1.kills.length:Int))))
  (M.bind (M.idx e1.kills i37) fun x39=>
  M.bind (M.det (Zg x39)) fun v41=>
  cond (!v41)
   (M.pure (.done (.ret false)))
   (M.pure (.next (IntKind.i64.wrap (i37+1)))))
  (M.pure (.done (.brk ())))
def VX(e1:EV):M Bool:=
 M.bind (M.det (Xw e1.cid)) fun v2=>
 M.bind (cond (!v2.2)
  (M.pure true)
  (M.bind (M.det (Zg e1.dot)) fun v6=>
  cond (!v6)
   (M.pure true)
   (cond (!decide (e1.kind=1))
    (M.pure (!decide (e1.kind=2)))
    (M.pure false)))) (fun v4=>
 cond v4
  (M.pure false)
  (M.bind (cond (decide (e1.kind=1))
   (M.bind (M.det (Ur e1.field)) fun v13=>
   cond (!v13)
    (M.pure true)
    (M.bind (M.det (Us e1.text)) fun v16=>
    cond (!v16)
     (M.pure true)
     (cond (decide (e1.kind=2))
      (cond (!decide (e1.field=0))
       (M.pure true)
       (M.pure ((!decide (e1.text=(⟨#[]⟩:ByteArray))))))
      (M.pure false))))
   (cond (decide (e1.kind=2))
    (cond (!decide (e1.field=0))
     (M.pure true)
     (M.pure ((!decide (e1.text=(⟨#[]⟩:ByteArray))))))
    (M.pure false))) (fun v11=>
  cond v11
   (M.pure false)
   (M.bind (M.loop (ZE e1) 0) (M.exk (fun _=>
   M.bind (cond ((decide ((e1.kills.length:Int)<=256)))
    (M.bind (M.det (Xx e1.kills)) fun v46=>
    cond v46
     (M.bind (M.det (UK e1.kills e1.dot)) fun v49=>
     M.pure (!v49))
     (M.pure false))
    (M.pure false)) (fun v44=>
   M.pure v44)))))))
def Xy(l1:List DT)(d2:DT):Int×List DT->M (M.Step (Int×List DT) (List DT)):=fun⟨i26,out27⟩=>
 cond ((decide (i26 < (l1.length:Int))))
  (M.bind (M.bind (M.idx l1 i26) fun x30=>
  M.bind (M.det (Wj x30 d2)) fun v32=>
  cond (decide (v32 < 0))
   (M.bind (M.idx l1 i26) fun x35=>
   M.yt ((out27.length+List.length ([x35]))*16<=140737488355328) <|
   M.pure (out27++[x35]))
   (M.pure out27)) (fun out29=>
  M.pure (.next (((IntKind.i64.wrap (i26+1)),out29)))))
  (M.pure (.done out27))
def YF(l1:List DT)(d2:DT):Int×List DT->M (M.Step (Int×List DT) (List DT)):=fun⟨i62,out63⟩=>
 cond ((decide (i62 < (l1.length:Int))))
  (M.bind (M.bind (M.idx l1 i62) fun x66=>
  M.bind (M.det (Wj x66 d2)) fun v68=>
  cond (decide (0 < v68))
   (M.bind (M.idx l1 i62) fun x71=>
   M.yt ((out63.length+List.length ([x71]))*16<=140737488355328) <|
   M.pure (out63++[x71]))
   (M.pure out63)) (fun out65=>
  M.pure (.next (((IntKind.i64.wrap (i62+1)),out65)))))
  (M.pure (.done out63))
def XM(l1:List DT)(d2:DT):M (List DT):=
 M.bind (M.loop (Xy l1 d2) (0,([]:List DT))) (fun out3=>
 M.yt ((out3.length+List.length ([d2]))*16<=140737488355328) <|
 M.bind (M.loop (YF l1 d2) (0,(out3++[d2]))) (fun out39=>
 M.pure out39))
def YY(a1:List PT):List DT×Int->M (M.Step (List DT×Int) (List DT)):=fun⟨out16,i17⟩=>
 cond ((decide (i17 < (a1.length:Int))))
  (M.bind (M.idx a1 i17) fun x19=>
  M.bind (M.det (XM out16 (⟨x19.dev,1⟩:DT))) fun v21=>
  M.pure (.next ((v21,(IntKind.i64.wrap (i17+1))))))
  (M.pure (.done out16))
def ZF(b2:List PT):List DT×Int->M (M.Step (List DT×Int) (List DT)):=fun⟨out36,i37⟩=>
 cond ((decide (i37 < (b2.length:Int))))
  (M.bind (M.idx b2 i37) fun x39=>
  M.bind (M.det (XM out36 (⟨x39.dev,1⟩:DT))) fun v41=>
  M.pure (.next ((v41,(IntKind.i64.wrap (i37+1))))))
  (M.pure (.done out36))
def Ut(a1:List PT)(b2:List PT):M (List DT):=
 M.bind (M.loop (YY a1) (([]:List DT),0)) (fun out3=>
 M.bind (M.loop (ZF b2) (out3,0)) (fun out23=>
 M.pure out23))
def Uu(a1:List RN)(b2:List RN):M (List RN):=
 M.bind (M.det (UJ a1 b2 1)) fun v3=>
 M.pure v3
def VY(a1:List RN)(b2:List RN):M (List RN):=
 M.bind (M.det (UJ a1 b2 2)) fun v3=>
 M.pure v3
def Xz(v4:List DT)(a1:List PT)(b2:List PT)(how3:Int):Int×List PT->M (M.Step (Int×List PT) (List PT)):=fun⟨i57,out58⟩=>
 cond ((decide (i57 < (v4.length:Int))))
  (M.bind (M.bind (M.idx v4 i57) fun x61=>
  M.bind (M.det (Xu a1 x61.dev)) fun v63=>
  M.bind (M.idx v4 i57) fun x65=>
  M.bind (M.det (Xu b2 x65.dev)) fun v67=>
  M.bind (M.det (VV v63 v67)) fun v69=>
  M.bind (cond (decide (how3=1))
   (M.bind (M.det (Uu v63 v67)) fun v73=>
   M.pure v73)
   (M.pure v69)) (fun z71=>
  M.bind (cond (decide (how3=2))
   (M.bind (M.det (VY v63 v67)) fun v77=>
   M.pure v77)
   (M.pure z71)) (fun z75=>
  cond ((decide (0 < (z75.length:Int))))
   (M.bind (M.idx v4 i57) fun x80=>
   M.yt ((out58.length+List.length ([(⟨x80.dev,z75⟩:PT)]))*32<=140737488355328) <|
   M.pure (out58++[(⟨x80.dev,z75⟩:PT)]))
   (M.pure out58)))) (fun out60=>
  M.pure (.next (((IntKind.i64.wrap (i57+1)),out60)))))
  (M.pure (.done out58))
def UL(a1:List PT)(b2:List PT)(how3:Int):M (List PT):=
 M.bind (M.det (Ut a1 b2)) fun v4=>
 M.bind (M.loop (Xz v4 a1 b2 how3) (0,([]:List PT))) (fun out6=>
 M.pure out6)
def YZ(a1:List PT)(b2:List PT):M (List PT):=
 M.bind (M.det (UL a1 b2 0)) fun v3=>
 M.pure v3
def VZ(l1:List DT):List PT×Int->M (M.Step (List PT×Int) (List PT)):=fun⟨out35,i36⟩=>
 cond ((decide (i36 < (l1.length:Int))))
  (M.bind (M.bind (M.idx l1 i36) fun x39=>
  M.bind (M.det (Zg x39)) fun v41=>
  cond v41
   (M.bind (M.idx l1 i36) fun x44=>
   M.bind (M.idx l1 i36) fun x46=>
   M.bind (M.idx l1 i36) fun x48=>
   M.bind (M.det (YZ out35 ([(⟨x44.dev,[(⟨x46.n,x48.n⟩:RN)]⟩:PT)]))) fun v50=>
   M.pure v50)
   (M.pure out35)) (fun out38=>
  M.pure (.next ((out38,(IntKind.i64.wrap (i36+1)))))))
  (M.pure (.done out35))
def xZa(l1:List DT):M (List PT):=
 M.bind (M.loop (VZ l1) (([]:List PT),0)) (fun out2=>
 M.pure out2)
def ZG(l1:List EV)(i80:Int):List DT×Int->M (M.Step (List DT×Int) (List DT)):=fun⟨out107,k108⟩=>
 M.bind (M.idx l1 i80) fun x109=>
 cond ((decide (k108 < (x109.kills.length:Int))))
  (M.bind (M.idx l1 i80) fun x112=>
  M.bind (M.idx x112.kills k108) fun x114=>
  M.bind (M.det (XM out107 x114)) fun v116=>
  M.pure (.next ((v116,(IntKind.i64.wrap (k108+1))))))
  (M.pure (.done out107))
def Ya(l1:List EV):List DT×Int->M (M.Step (List DT×Int) (List DT)):=fun⟨out79,i80⟩=>
 cond ((decide (i80 < (l1.length:Int))))
  (M.bind (M.bind (M.idx l1 i80) fun x83=>
  M.bind (M.det (XM out79 x83.dot)) fun v85=>
  M.loop (ZG l1 i80) (v85,0)) (fun out82=>
  M.pure (.next ((out82,(IntKind.i64.wrap (i80+1)))))))
  (M.pure (.done out79))
def WA(l1:List EV):M (List DT):=
 M.bind (M.loop (Ya l1) (([]:List DT),0)) (fun out2=>
 M.pure out2)
def YG(l1:List EV)(e2:EV):Bool×Int×List EV->M (M.Step (Bool×Int×List EV) (M.Ex (Bool×List EV) (List EV))):=fun⟨done38,i39,out40⟩=>
 cond ((decide (i39 < (l1.length:Int))))
  (M.bind (M.idx l1 i39) fun x42=>
  M.bind (M.det (Wj x42.dot e2.dot)) fun v44=>
  cond (decide (v44=0))
   (M.pure (.done (.ret l1)))
   (M.bind (cond (decide (0 < v44))
    (M.pure (!done38))
    (M.pure false)) (fun v47=>
   M.bind (cond v47
    (M.yt ((out40.length+List.length ([e2]))*80<=140737488355328) <|
    M.pure (true,(out40++[e2])))
    (M.pure (done38,out40))) (fun⟨done49,out50⟩=>
   M.bind (M.idx l1 i39) fun x53=>
   M.yt ((out50.length+List.length ([x53]))*80<=140737488355328) <|
   M.pure (.next ((done49,(IntKind.i64.wrap (i39+1)),(out50++[x53]))))))))
  (M.pure (.done (.brk (done38,out40))))
def QB(l1:List EV)(e2:EV):M (List EV):=
 M.bind (M.loop (YG l1 e2) (false,0,([]:List EV))) (M.exk (fun⟨done3,out4⟩=>
 M.bind (cond (!done3)
  (M.yt ((out4.length+List.length ([e2]))*80<=140737488355328) <|
  M.pure (out4++[e2]))
  (M.pure out4)) (fun out56=>
 M.pure out56)))
def YH(b1:RB)(e2:EV):Int×List EV->M (M.Step (Int×List EV) (List EV)):=fun⟨i40,l41⟩=>
 cond ((decide (i40 < (b1.l.length:Int))))
  (M.bind (M.bind (M.bind (M.idx b1.l i40) fun x45=>
  cond (!decide (x45.kind=1))
   (M.pure true)
   (M.bind (M.idx b1.l i40) fun x48=>
   M.bind (M.det (UK e2.kills x48.dot)) fun v50=>
   M.pure (!v50))) (fun v44=>
  cond v44
   (M.bind (M.idx b1.l i40) fun x53=>
   M.yt ((l41.length+List.length ([x53]))*80<=140737488355328) <|
   M.pure (l41++[x53]))
   (M.pure l41))) (fun l43=>
  M.pure (.next (((IntKind.i64.wrap (i40+1)),l43)))))
  (M.pure (.done l41))
def Yb(b1:RB)(e2:EV):M (RB×Int):=
 M.bind (M.det (VX e2)) fun v3=>
 cond (!v3)
  (M.pure (b1,1))
  (M.bind (M.det (Zs b1.ctx e2.dot)) fun v6=>
  cond v6
   (M.pure (b1,7))
   (M.bind (M.loop (YH b1 e2) (0,([]:List EV))) (fun l9=>
   M.bind (M.det (WA ([e2]))) fun v56=>
   M.bind (M.det (xZa v56)) fun v58=>
   M.bind (M.det (YZ b1.ctx v58)) fun v60=>
   M.bind (M.det (QB l9 e2)) fun v62=>
   M.pure ((⟨v60,v62⟩:RB),0))))
def Yc(l1:List EV)(k2:Int):Int×List EV->M (M.Step (Int×List EV) (List EV)):=fun⟨i22,out23⟩=>
 cond ((decide (i22 < (l1.length:Int))))
  (M.bind (M.bind (M.idx l1 i22) fun x26=>
  cond (decide (x26.kind=k2))
   (M.bind (M.idx l1 i22) fun x29=>
   M.yt ((out23.length+List.length ([x29]))*80<=140737488355328) <|
   M.pure (out23++[x29]))
   (M.pure out23)) (fun out25=>
  M.pure (.next (((IntKind.i64.wrap (i22+1)),out25)))))
  (M.pure (.done out23))
def Va(l1:List EV)(k2:Int):M (List EV):=
 M.bind (M.loop (Yc l1 k2) (0,([]:List EV))) (fun out3=>
 M.pure out3)
def WB(b1:RB):M (List EV):=
 M.bind (M.det (Va b1.l 1)) fun v2=>
 M.pure v2
def ui(l1:List EV)(cid2:Int):Int×List EV->M (M.Step (Int×List EV) (List EV)):=fun⟨i30,some31⟩=>
 cond ((decide (i30 < (l1.length:Int))))
  (M.bind (M.bind (M.bind (M.idx l1 i30) fun x35=>
  cond (decide (x35.kind=1))
   (M.bind (M.idx l1 i30) fun x38=>
   M.pure (decide (x38.cid=cid2)))
   (M.pure false)) (fun v34=>
  cond v34
   (M.bind (M.idx l1 i30) fun x41=>
   M.yt ((some31.length+List.length ([x41]))*80<=140737488355328) <|
   M.pure (some31++[x41]))
   (M.pure some31))) (fun some33=>
  M.pure (.next (((IntKind.i64.wrap (i30+1)),some33)))))
  (M.pure (.done some31))
def WC(l1:List EV)(cid2:Int):M (List DT):=
 M.bind (M.loop (ui l1 cid2) (0,([]:List EV))) (fun some3=>
 M.bind (M.det (WA some3)) fun v44=>
 M.pure v44)
def Yd(l1:List EV)(cid2:Int)(f3:Int):Int×List EV->M (M.Step (Int×List EV) (List EV)):=fun⟨i37,some38⟩=>
 cond ((decide (i37 < (l1.length:Int))))
  (M.bind (M.bind (M.bind (M.idx l1 i37) fun x42=>
  cond (decide (x42.kind=1))
   (M.bind (M.idx l1 i37) fun x45=>
   cond (decide (x45.cid=cid2))
    (M.bind (M.idx l1 i37) fun x48=>
    M.pure (decide (x48.field=f3)))
    (M.pure false))
   (M.pure false)) (fun v41=>
  cond v41
   (M.bind (M.idx l1 i37) fun x51=>
   M.yt ((some38.length+List.length ([x51]))*80<=140737488355328) <|
   M.pure (some38++[x51]))
   (M.pure some38))) (fun some40=>
  M.pure (.next (((IntKind.i64.wrap (i37+1)),some40)))))
  (M.pure (.done some38))
def Uv(l1:List EV)(cid2:Int)(f3:Int):M (List DT):=
 M.bind (M.loop (Yd l1 cid2 f3) (0,([]:List EV))) (fun some4=>
 M.bind (M.det (WA some4)) fun v54=>
 M.pure v54)
def Uw(b1:RB)(e2:EV):M (EV×Int):=
 M.bind (M.det (VX (⟨e2.dot,e2.kind,e2.cid,e2.field,e2.text,([]:List DT)⟩:EV))) fun v3=>
 cond (!v3)
  (M.pure (((⟨(⟨0,0⟩:DT),0,0,0,(⟨#[]⟩:ByteArray),([]:List DT)⟩:EV),1)))
  (M.bind (M.det (Zs b1.ctx e2.dot)) fun v6=>
  cond v6
   (M.pure (((⟨(⟨0,0⟩:DT),0,0,0,(⟨#[]⟩:ByteArray),([]:List DT)⟩:EV),7)))
   (M.bind (M.det (WB b1)) fun v9=>
   M.bind (M.det (WC v9 e2.cid)) fun v11=>
   M.bind (cond (decide (e2.kind=1))
    (M.bind (M.det (WB b1)) fun v15=>
    M.bind (M.det (Uv v15 e2.cid e2.field)) fun v17=>
    M.pure v17)
    (M.pure v11)) (fun e13=>
   cond ((decide (256 < (e13.length:Int))))
    (M.pure (((⟨(⟨0,0⟩:DT),0,0,0,(⟨#[]⟩:ByteArray),([]:List DT)⟩:EV),3)))
    (M.pure ((⟨e2.dot,e2.kind,e2.cid,e2.field,e2.text,e13⟩:EV),0)))))
def QC(b1:RB)(c2:List PT):M RB:=
 M.bind (M.det (YZ b1.ctx c2)) fun v3=>
 M.pure (⟨v3,b1.l⟩:RB)
def Vb(e1:EV)(c2:List PT):M EV:=
 M.bind (M.det (Zs c2 e1.dot)) fun v3=>
 M.bind (cond v3
  (M.pure ([]:List DT))
  (M.pure e1.kills)) (fun e5=>
 M.pure (⟨e1.dot,e1.kind,e1.cid,e1.field,e1.text,e5⟩:EV))
def uO(b1:RB)(c2:List PT):Int×List EV->M (M.Step (Int×List EV) (List EV)):=fun⟨i38,l39⟩=>
 cond ((decide (i38 < (b1.l.length:Int))))
  (M.bind (M.bind (M.bind (M.idx b1.l i38) fun x43=>
  cond (decide (x43.kind=1))
   (M.pure true)
   (M.bind (M.idx b1.l i38) fun x46=>
   M.bind (M.det (Zs c2 x46.dot)) fun v48=>
   M.pure (!v48))) (fun v42=>
  cond v42
   (M.bind (M.idx b1.l i38) fun x51=>
   M.bind (M.det (Vb x51 c2)) fun v53=>
   M.yt ((l39.length+List.length ([v53]))*80<=140737488355328) <|
   M.pure (l39++[v53]))
   (M.pure l39))) (fun l41=>
  M.pure (.next (((IntKind.i64.wrap (i38+1)),l41)))))
  (M.pure (.done l39))
def Vc(b1:RB)(c2:List PT):M (RB×Int):=
 M.bind (M.loop (uO b1 c2) (0,([]:List EV))) (fun l3=>
 M.pure (((⟨b1.ctx,l3⟩:RB),(IntKind.i64.wrap ((b1.l.length:Int) - (l3.length:Int))))))
def XN(l1:List LA):Int×List PT×List EV->M (M.Step (Int×List PT×List EV) (List PT×List EV)):=fun⟨i45,x46,x47⟩=>
 cond ((decide (i45 < (l1.length:Int))))
  (M.bind (M.bind (M.idx l1 i45) fun x51=>
  cond (decide (x51.kind=0))
   (M.bind (M.det (Yb (⟨x46,x47⟩:RB) x51.event)) fun v54=>
   M.pure (v54.1.ctx,v54.1.l))
   (cond (decide (x51.kind=1))
    (M.bind (M.det (Uw (⟨x46,x47⟩:RB) x51.event)) fun v57=>
    M.bind (M.det (Yb (⟨x46,x47⟩:RB) v57.1)) fun v59=>
    M.pure (v59.1.ctx,v59.1.l))
    (cond (decide (x51.kind=2))
     (M.bind (M.det (QC (⟨x46,x47⟩:RB) x51.ctx)) fun v62=>
     M.pure (v62.ctx,v62.l))
     (cond (decide (x51.kind=3))
      (M.bind (M.det (Vc (⟨x46,x47⟩:RB) x51.ctx)) fun v65=>
      M.pure (v65.1.ctx,v65.1.l))
      (M.pure (x46,x47)))))) (fun⟨x49,x50⟩=>
  M.pure (.next (((IntKind.i64.wrap (i45+1)),x49,x50)))))
  (M.pure (.done (x46,x47)))
def xaa(l1:List LA):M RB:=
 M.bind (M.loop (XN l1) (0,([]:List PT),([]:List EV))) (fun⟨x2,x3⟩=>
 M.pure (⟨x2,x3⟩:RB))
def uH(c1:List PT):M (List PT):=
 M.bind (M.det (UL c1 ([]:List PT) 0)) fun v2=>
 M.pure v2
def xy(s1:List PT):M (List PT):=
 M.bind (M.isNil s1) fun b2=>
 cond b2
  (M.pure ([]:List PT))
  (M.yt ((List.length ([]:List PT)+s1.length)*32<=140737488355328) <|
  M.pure (([]:List PT)++s1))
def xe(s1:List RN):M (List RN):=
 M.bind (M.isNil s1) fun b2=>
 cond b2
  (M.pure ([]:List RN))
  (M.yt ((List.length ([]:List RN)+s1.length)*16<=140737488355328) <|
  M.pure (([]:List RN)++s1))
def vXa(a1:List RN)(b2:List RN):Int->M (M.Step Int (M.Ex Unit Bool)):=fun i17=>
 cond ((decide (i17 < (a1.length:Int))))
  (M.bind (M.idx a1 i17) fun x19=>
  M.bind (M.idx b2 i17) fun x21=>
  cond ((!(decide (x19.lo=x21.lo)&&decide (x19.hi=x21.hi))))
   (M.pure (.done (.ret false)))
   (M.pure (.next (IntKind.i64.wrap (i17+1)))))
  (M.pure (.done (.brk ())))
def xba(a1:List RN)(b2:List RN):M Bool:=
 cond ((!decide ((a1.length:Int)=(b2.length:Int))))
  (M.pure false)
  (M.bind (M.loop (vXa a1 b2) 0) (M.exk (fun _=>
  M.pure true)))
def Vd(a1:List PT)(b2:List PT):Int->M (M.Step Int (M.Ex Unit Bool)):=fun i33=>
 cond ((decide (i33 < (a1.length:Int))))
  (M.bind (M.bind (M.idx a1 i33) fun x36=>
  M.bind (M.idx b2 i33) fun x38=>
  cond (!decide (x36.dev=x38.dev))
   (M.pure true)
   (M.bind (M.idx a1 i33) fun x41=>
   M.bind (M.idx b2 i33) fun x43=>
   M.bind (M.det (xba x41.runs x43.runs)) fun v45=>
   M.pure (!v45))) (fun v35=>
  cond v35
   (M.pure (.done (.ret false)))
   (M.pure (.next (IntKind.i64.wrap (i33+1))))))
  (M.pure (.done (.brk ())))
def qA(a1:List PT)(b2:List PT):M Bool:=
 cond ((!decide ((a1.length:Int)=(b2.length:Int))))
  (M.pure false)
  (M.bind (M.loop (Vd a1 b2) 0) (M.exk (fun _=>
  M.pure true)))
def Ve(a1:List PT)(b2:List PT):M Bool:=
 M.bind (M.det (uH a1)) fun v3=>
 M.bind (M.det (uH b2)) fun v5=>
 M.bind (M.det (qA v3 v5)) fun v7=>
 M.pure v7
def Ye(a1:List DT)(b2:List DT):Int->M (M.Step Int (M.Ex Unit Bool)):=fun i17=>
 cond ((decide (i17 < (a1.length:Int))))
  (M.bind (M.idx a1 i17) fun x19=>
  M.bind (M.idx b2 i17) fun x21=>
  cond ((!(decide (x19.dev=x21.dev)&&decide (x19.n=x21.n))))
   (M.pure (.done (.ret false)))
   (M.pure (.next (IntKind.i64.wrap (i17+1)))))
  (M.pure (.done (.brk ())))
def Vf(a1:List DT)(b2:List DT):M Bool:=
 cond ((!decide ((a1.length:Int)=(b2.length:Int))))
  (M.pure false)
  (M.bind (M.loop (Ye a1 b2) 0) (M.exk (fun _=>
  M.pure true)))
def Ux(a1:EV)(b2:EV):M Bool:=
 M.bind (cond (((decide (a1.dot.dev=b2.dot.dev)&&decide (a1.dot.n=b2.dot.n))))
  (cond (decide (a1.kind=b2.kind))
   (cond (decide (a1.cid=b2.cid))
    (cond (decide (a1.field=b2.field))
     (cond (decide (a1.text=b2.text))
      (M.bind (M.det (Vf a1.kills b2.kills)) fun v9=>
      M.pure v9)
      (M.pure false))
     (M.pure false))
    (M.pure false))
   (M.pure false))
  (M.pure false)) (fun v3=>
 M.pure v3)
def WD(a1:List EV)(b2:List EV):Int->M (M.Step Int (M.Ex Unit Bool)):=fun i21=>
 cond ((decide (i21 < (a1.length:Int))))
  (M.bind (M.idx a1 i21) fun x23=>
  M.bind (M.idx b2 i21) fun x25=>
  M.bind (M.det (Ux x23 x25)) fun v27=>
  cond (!v27)
   (M.pure (.done (.ret false)))
   (M.pure (.next (IntKind.i64.wrap (i21+1)))))
  (M.pure (.done (.brk ())))
def Wl(a1:List EV)(b2:List EV):M Bool:=
 cond ((!decide ((a1.length:Int)=(b2.length:Int))))
  (M.pure false)
  (M.bind (M.loop (WD a1 b2) 0) (M.exk (fun _=>
  M.pure true)))
def Uy(a1:DL)(b2:DL):M Bool:=
 M.bind (M.bind (M.det (Ve a1.from_ b2.from_)) fun v4=>
 cond v4
  (M.bind (M.det (Ve a1.to_ b2.to_)) fun v7=>
  cond v7
   (M.bind (M.det (Wl a1.events b2.events)) fun v10=>
   M.pure v10)
   (M.pure false))
  (M.pure false)) (fun v3=>
 M.pure v3)
def Uz(a1:List PT)(b2:List PT):M (List PT):=
 M.bind (M.det (UL a1 b2 1)) fun v3=>
 M.pure v3
def Zh(b1:RB)(from2:List PT):Int×List EV->M (M.Step (Int×List EV) (List EV)):=fun⟨i_32,d33⟩=>
 cond ((decide (i_32 < (b1.l.length:Int))))
  (M.bind (M.bind (M.idx b1.l i_32) fun x36=>
  M.bind (M.det (Zs from2 x36.dot)) fun v38=>
  cond (!v38)
   (M.yt ((List.length ([]:List EV)+d33.length)*80<=140737488355328) <|
   M.bind (M.idx b1.l i_32) fun x42=>
   M.yt ((List.length (([]:List EV)++d33)+List.length ([x42]))*80<=140737488355328) <|
   M.pure (((([]:List EV)++d33)++[x42])))
   (M.pure d33)) (fun d35=>
  M.pure (.next (((IntKind.i64.wrap (i_32+1)),d35)))))
  (M.pure (.done d33))
def Vg(b1:RB)(from2:List PT):M DL:=
 M.bind (M.det (Uz from2 b1.ctx)) fun v3=>
 M.bind (M.det (uH b1.ctx)) fun v5=>
 M.bind (M.loop (Zh b1 from2) (0,([]:List EV))) (fun d7=>
 M.pure (⟨v3,v5,d7⟩:DL))
def Vh(b1:RB):M (List EV):=
 M.bind (M.det (Va b1.l 2)) fun v2=>
 M.pure v2
def yR(l2:List EV):Int×Bool×(List (DT×EV))×Bool×(List (DT×EV))->M (M.Step (Int×Bool×(List (DT×EV))×Bool×(List (DT×EV))) (M.Ex (Bool×(List (DT×EV))×Bool×(List (DT×EV))) (Unit⊕(List PT×Bool×(List (DT×EV))×Bool×(List (DT×EV)))))):=fun⟨v72,nl73,v74,nl75,v76⟩=>
 cond ((decide (v72 < (l2.length:Int))))
  (M.bind (M.bind (M.idx l2 v72) fun x82=>
  M.bind (M.bind (M.det (vu x82)) fun v85=>
  cond (!v85)
   (M.pure true)
   (cond (decide (0 < v72))
    (M.bind (M.idx l2 (IntKind.i64.wrap (v72 - 1))) fun x89=>
    M.bind (M.det (Zr x89.dot x82.dot)) fun v91=>
    cond (decide (0<=v91))
     (M.pure true)
     (cond (decide (x82.kind=1))
      (M.bind (M.det (vR l2 x82.dot)) fun v95=>
      M.pure v95)
      (M.pure false)))
    (cond (decide (x82.kind=1))
     (M.bind (M.det (vR l2 x82.dot)) fun v98=>
     M.pure v98)
     (M.pure false)))) (fun v84=>
  cond v84
   (M.pure (.ret ((.done ((.ret (.inl ())))))))
   (cond (decide (x82.kind=1))
    (M.bind (M.det (xK x82 nl75 v76)) fun y102=>
    M.pure (.brk (nl73,v74,y102.1,y102.2)))
    (M.bind (M.det (xK x82 nl73 v74)) fun y104=>
    M.pure (.brk (y104.1,y104.2,nl75,v76)))))) (M.exk (fun⟨nl78,v79,nl80,v81⟩=>
  M.pure (.next (((IntKind.i64.wrap (v72+1)),nl78,v79,nl80,v81))))))
  (M.pure (.done (.brk (nl73,v74,nl75,v76))))
def xz(c1:List PT)(l2:List EV):M (Unit⊕(List PT×Bool×(List (DT×EV))×Bool×(List (DT×EV)))):=
 M.bind (M.det (vW c1)) fun v3=>
 M.bind (M.loop (yR l2) ((0,true,([]:List (DT×EV)),true,([]:List (DT×EV))))) (M.exk (fun⟨nl5,v6,nl7,v8⟩=>
 M.bind (M.bind (M.det (Xn c1)) fun v107=>
 cond (!v107)
  (M.pure true)
  (M.bind (M.det (ut l2)) fun v110=>
  M.bind (M.det (YC v110 c1)) fun v112=>
  M.pure ((decide (0 < ((v112.length):Int)))))) (fun v106=>
 cond v106
  (M.pure (.inl ()))
  (M.pure (.inr (v3,nl7,v8,nl5,v6))))))
def vz :M (List PT):=
 M.pure ([]:List PT)
def uA :M (List EV):=
 M.pure ([]:List EV)
def va(from1:List PT):M DL:=
 M.bind (M.det (vz)) fun v2=>
 M.bind (M.det (Xh from1 v2)) fun v4=>
 M.bind (M.det (uA)) fun v6=>
 M.bind (M.det (zM from1 v6)) fun y8=>
 M.pure (⟨v4,v2,y8⟩:DL)
def ZH(m3:List (DT×EV)):List Nat×Bool×(List (DT×EV))->M (M.Step (List Nat×Bool×(List (DT×EV))) (Bool×(List (DT×EV)))):=fun⟨seen32,nl33,v34⟩=>
 M.yt (∀ i∈seen32,i < m3.length)<|M.bind (M.nxt (m3.length) seen32) fun o=>match o with
 | none=>
  M.pure (.done (nl33,v34))
 | some j35=>
  M.bind (M.idx m3 (Int.ofNat j35)) fun kv39=>
  M.bind (M.det (xK kv39.2 nl33 v34)) fun y41=>
  M.pure (.next ((seen32++[j35]),y41.1,y41.2))
def ZI(m5:List (DT×EV)):List Nat×Bool×(List (DT×EV))->M (M.Step (List Nat×Bool×(List (DT×EV))) (Bool×(List (DT×EV)))):=fun⟨seen68,nl69,v70⟩=>
 M.yt (∀ i∈seen68,i < m5.length)<|M.bind (M.nxt (m5.length) seen68) fun o=>match o with
 | none=>
  M.pure (.done (nl69,v70))
 | some j71=>
  M.bind (M.idx m5 (Int.ofNat j71)) fun kv75=>
  M.bind (M.det (xK kv75.2 nl69 v70)) fun y77=>
  M.pure (.next ((seen68++[j71]),y77.1,y77.2))
def vG(ctx_1:List PT)(nl2:Bool)(m3:List (DT×EV))(nl4:Bool)(m5:List (DT×EV)):M (List PT×Bool×(List (DT×EV))×Bool×(List (DT×EV))):=
 M.bind (M.det (vW ctx_1)) fun v6=>
 M.bind (M.loop (ZH m3) (([],true,([]:List (DT×EV))))) (fun⟨nl9,v10⟩=>
 M.bind (M.loop (ZI m5) (([],true,([]:List (DT×EV))))) (fun⟨nl45,v46⟩=>
 M.pure (v6,nl9,v10,nl45,v46)))
def we(ctx_1:List PT)(nl2:Bool)(m3:List (DT×EV))(nl4:Bool)(m5:List (DT×EV)):M (List EV):=
 M.bind (M.det (uN nl4 m5)) fun y6=>
 M.pure y6
def jA(x1:RB)(ctx_2:List PT)(nl3:Bool)(m4:List (DT×EV))(nl5:Bool)(m6:List (DT×EV)):M Int:=
 M.bind (M.bind (M.det (yY ctx_2 nl3 m4 nl5 m6)) fun y8=>
 M.bind (M.det (uH x1.ctx)) fun v10=>
 M.bind (M.det (qA y8 v10)) fun v12=>
 cond v12
  (M.bind (M.det (xh ctx_2 nl3 m4 nl5 m6)) fun y15=>
  M.bind (M.det (WB x1)) fun v17=>
  M.bind (M.det (Wl y15 v17)) fun v19=>
  cond v19
   (M.bind (M.det (we ctx_2 nl3 m4 nl5 m6)) fun y22=>
   M.bind (M.det (Vh x1)) fun v24=>
   M.bind (M.det (Wl y22 v24)) fun v26=>
   cond v26
    (M.bind (M.det (ym ctx_2 nl3 m4 nl5 m6)) fun y29=>
    M.bind (M.det (Wl y29 x1.l)) fun v31=>
    M.pure v31)
    (M.pure false))
   (M.pure false))
  (M.pure false)) (fun v7=>
 cond v7
  (M.pure 1)
  (M.pure 0))
def ZJ(d1:DL):M Int:=
 M.pure 1
end Go.Ep
namespace Go.Proofs
open Go.Shelf
def Tryz.pdq133_ren : Go.Shelf.Ren:=⟨fun | 14=>133 | 20=>144 | 21=>145 | 22=>146 | 23=>147 | 24=>148 | 25=>149 | 26=>150 | 27=>151 | 46=>173 | 47=>174 | 48=>175 | 49=>176 | 50=>177 | 15=>134 | 57=>192 | 28=>152 | 29=>153 | n=>n,fun | 24=>57 | 22=>28 | 3=>3 | 25=>131 | 4=>4 | 0=>0 | 46=>160 | 45=>159 | 50=>143 | 66=>181 | 39=>151 | 55=>52 | 70=>185 | 76=>196 | 77=>197 | 53=>166 | 5=>5 | 9=>9 | n=>n,fun | n=>n⟩
theorem Tryz.pdq133 : Go.Proofs.SlLaysF0.n14 Tryz.prog Tryz.pdq133_ren:={
 mixed:=by kernel_rfl
 f14:=⟨Tryz.f133.name,by decide,Tryz.func133.trans (congrArg some (by kernel_rfl))⟩
 f15:=Tryz.func134.trans (congrArg some (by kernel_rfl))
 f20:=⟨Tryz.f144.name,by decide,Tryz.func144.trans (congrArg some (by kernel_rfl))⟩
 f21:=⟨Tryz.f145.name,by decide,Tryz.func145.trans (congrArg some (by kernel_rfl))⟩
 f22:=⟨Tryz.f146.name,by decide,Tryz.func146.trans (congrArg some (by kernel_rfl))⟩
 f23:=⟨Tryz.f147.name,by decide,Tryz.func147.trans (congrArg some (by kernel_rfl))⟩
 f24:=⟨Tryz.f148.name,by decide,Tryz.func148.trans (congrArg some (by kernel_rfl))⟩
 f25:=⟨Tryz.f149.name,by decide,Tryz.func149.trans (congrArg some (by kernel_rfl))⟩
 f26:=⟨Tryz.f150.name,by decide,Tryz.func150.trans (congrArg some (by kernel_rfl))⟩
 f27:=⟨Tryz.f151.name,by decide,Tryz.func151.trans (congrArg some (by kernel_rfl))⟩
 f28:=Tryz.func152.trans (congrArg some (by kernel_rfl))
 f29:=Tryz.func153.trans (congrArg some (by kernel_rfl))
 f46:=⟨Tryz.f173.name,by decide,Tryz.func173.trans (congrArg some (by kernel_rfl))⟩
 f47:=Tryz.func174.trans (congrArg some (by kernel_rfl))
 f48:=Tryz.func175.trans (congrArg some (by kernel_rfl))
 f49:=⟨Tryz.f176.name,by decide,Tryz.func176.trans (congrArg some (by kernel_rfl))⟩
 f50:=⟨Tryz.f177.name,by decide,Tryz.func177.trans (congrArg some (by kernel_rfl))⟩
 f57:=⟨Tryz.f192.name,by decide,Tryz.func192.trans (congrArg some (by kernel_rfl))⟩
 t0:=Tryz.underlying0
 a0:=Tryz.isAgg0
 z0:=Tryz.sizeOf0
 v0:=Tryz.zeroValue0
 t3:=Tryz.underlying3
 a3:=Tryz.isAgg3
 z3:=Tryz.sizeOf3
 v3:=Tryz.zeroValue3
 t4:=Tryz.underlying4
 a4:=Tryz.isAgg4
 z4:=Tryz.sizeOf4
 v4:=Tryz.zeroValue4
 t5:=Tryz.underlying5
 a5:=Tryz.isAgg5
 z5:=Tryz.sizeOf5
 v5:=Tryz.zeroValue5
 t9:=Tryz.underlying9
 a9:=Tryz.isAgg9
 z9:=Tryz.sizeOf9
 v9:=Tryz.zeroValue9
 t22:=Tryz.underlying28
 a22:=Tryz.isAgg28
 z22:=Tryz.sizeOf28
 v22:=Tryz.zeroValue28
 t25:=Tryz.underlying131
 a25:=Tryz.isAgg131
 z25:=Tryz.sizeOf131
 v25:=Tryz.zeroValue131
 t39:=Tryz.underlying151
 a39:=Tryz.isAgg151
 z39:=Tryz.sizeOf151
 v39:=Tryz.zeroValue151
 t45:=Tryz.underlying159
 a45:=Tryz.isAgg159
 z45:=Tryz.sizeOf159
 v45:=Tryz.zeroValue159
 t46:=Tryz.underlying160
 a46:=Tryz.isAgg160
 z46:=Tryz.sizeOf160
 v46:=Tryz.zeroValue160
 t50:=Tryz.underlying143
 a50:=Tryz.isAgg143
 z50:=Tryz.sizeOf143
 v50:=Tryz.zeroValue143
 t53:=Tryz.underlying166
 a53:=Tryz.isAgg166
 z53:=Tryz.sizeOf166
 v53:=Tryz.zeroValue166
 t55:=Tryz.underlying52
 a55:=Tryz.isAgg52
 z55:=Tryz.sizeOf52
 v55:=Tryz.zeroValue52
 t66:=Tryz.underlying181
 a66:=Tryz.isAgg181
 z66:=Tryz.sizeOf181
 v66:=Tryz.zeroValue181
 t70:=Tryz.underlying185
 a70:=Tryz.isAgg185
 z70:=Tryz.sizeOf185
 v70:=Tryz.zeroValue185
 t76:=Tryz.underlying196
 a76:=Tryz.isAgg196
 z76:=Tryz.sizeOf196
 v76:=Tryz.zeroValue196
 t77:=Tryz.underlying197
 a77:=Tryz.isAgg197
 z77:=Tryz.sizeOf197
 v77:=Tryz.zeroValue197 }
def Tryz.pdq138_ren : Go.Shelf.Ren:=⟨fun | 14=>138 | 20=>155 | 21=>156 | 22=>157 | 23=>158 | 24=>159 | 25=>160 | 26=>161 | 27=>162 | 46=>186 | 47=>174 | 48=>175 | 49=>187 | 50=>188 | 15=>134 | 57=>196 | 28=>152 | 29=>153 | n=>n,fun | 24=>62 | 22=>23 | 3=>3 | 25=>134 | 4=>4 | 0=>0 | 46=>160 | 45=>159 | 50=>143 | 66=>181 | 39=>151 | 55=>52 | 70=>185 | 76=>196 | 77=>197 | 53=>166 | 5=>5 | 9=>9 | n=>n,fun | n=>n⟩
theorem Tryz.pdq138 : Go.Proofs.SlLaysF0.n14 Tryz.prog Tryz.pdq138_ren:={
 mixed:=by kernel_rfl
 f14:=⟨Tryz.f138.name,by decide,Tryz.func138.trans (congrArg some (by kernel_rfl))⟩
 f15:=Tryz.func134.trans (congrArg some (by kernel_rfl))
 f20:=⟨Tryz.f155.name,by decide,Tryz.func155.trans (congrArg some (by kernel_rfl))⟩
 f21:=⟨Tryz.f156.name,by decide,Tryz.func156.trans (congrArg some (by kernel_rfl))⟩
 f22:=⟨Tryz.f157.name,by decide,Tryz.func157.trans (congrArg some (by kernel_rfl))⟩
 f23:=⟨Tryz.f158.name,by decide,Tryz.func158.trans (congrArg some (by kernel_rfl))⟩
 f24:=⟨Tryz.f159.name,by decide,Tryz.func159.trans (congrArg some (by kernel_rfl))⟩
 f25:=⟨Tryz.f160.name,by decide,Tryz.func160.trans (congrArg some (by kernel_rfl))⟩
 f26:=⟨Tryz.f161.name,by decide,Tryz.func161.trans (congrArg some (by kernel_rfl))⟩
 f27:=⟨Tryz.f162.name,by decide,Tryz.func162.trans (congrArg some (by kernel_rfl))⟩
 f28:=Tryz.func152.trans (congrArg some (by kernel_rfl))
 f29:=Tryz.func153.trans (congrArg some (by kernel_rfl))
 f46:=⟨Tryz.f186.name,by decide,Tryz.func186.trans (congrArg some (by kernel_rfl))⟩
 f47:=Tryz.func174.trans (congrArg some (by kernel_rfl))
 f48:=Tryz.func175.trans (congrArg some (by kernel_rfl))
 f49:=⟨Tryz.f187.name,by decide,Tryz.func187.trans (congrArg some (by kernel_rfl))⟩
 f50:=⟨Tryz.f188.name,by decide,Tryz.func188.trans (congrArg some (by kernel_rfl))⟩
 f57:=⟨Tryz.f196.name,by decide,Tryz.func196.trans (congrArg some (by kernel_rfl))⟩
 t0:=Tryz.underlying0
 a0:=Tryz.isAgg0
 z0:=Tryz.sizeOf0
 v0:=Tryz.zeroValue0
 t3:=Tryz.underlying3
 a3:=Tryz.isAgg3
 z3:=Tryz.sizeOf3
 v3:=Tryz.zeroValue3
 t4:=Tryz.underlying4
 a4:=Tryz.isAgg4
 z4:=Tryz.sizeOf4
 v4:=Tryz.zeroValue4
 t5:=Tryz.underlying5
 a5:=Tryz.isAgg5
 z5:=Tryz.sizeOf5
 v5:=Tryz.zeroValue5
 t9:=Tryz.underlying9
 a9:=Tryz.isAgg9
 z9:=Tryz.sizeOf9
 v9:=Tryz.zeroValue9
 t22:=Tryz.underlying23
 a22:=Tryz.isAgg23
 z22:=Tryz.sizeOf23
 v22:=Tryz.zeroValue23
 t25:=Tryz.underlying134
 a25:=Tryz.isAgg134
 z25:=Tryz.sizeOf134
 v25:=Tryz.zeroValue134
 t39:=Tryz.underlying151
 a39:=Tryz.isAgg151
 z39:=Tryz.sizeOf151
 v39:=Tryz.zeroValue151
 t45:=Tryz.underlying159
 a45:=Tryz.isAgg159
 z45:=Tryz.sizeOf159
 v45:=Tryz.zeroValue159
 t46:=Tryz.underlying160
 a46:=Tryz.isAgg160
 z46:=Tryz.sizeOf160
 v46:=Tryz.zeroValue160
 t50:=Tryz.underlying143
 a50:=Tryz.isAgg143
 z50:=Tryz.sizeOf143
 v50:=Tryz.zeroValue143
 t53:=Tryz.underlying166
 a53:=Tryz.isAgg166
 z53:=Tryz.sizeOf166
 v53:=Tryz.zeroValue166
 t55:=Tryz.underlying52
 a55:=Tryz.isAgg52
 z55:=Tryz.sizeOf52
 v55:=Tryz.zeroValue52
 t66:=Tryz.underlying181
 a66:=Tryz.isAgg181
 z66:=Tryz.sizeOf181
 v66:=Tryz.zeroValue181
 t70:=Tryz.underlying185
 a70:=Tryz.isAgg185
 z70:=Tryz.sizeOf185
 v70:=Tryz.zeroValue185
 t76:=Tryz.underlying196
 a76:=Tryz.isAgg196
 z76:=Tryz.sizeOf196
 v76:=Tryz.zeroValue196
 t77:=Tryz.underlying197
 a77:=Tryz.isAgg197
 z77:=Tryz.sizeOf197
 v77:=Tryz.zeroValue197 }
def Tryz.pdq140_ren : Go.Shelf.Ren:=⟨fun | 14=>140 | 20=>164 | 21=>165 | 22=>166 | 23=>167 | 24=>168 | 25=>169 | 26=>170 | 27=>171 | 46=>189 | 47=>174 | 48=>175 | 49=>190 | 50=>191 | 15=>134 | 57=>197 | 28=>152 | 29=>153 | n=>n,fun | 24=>54 | 22=>55 | 3=>3 | 25=>75 | 4=>4 | 0=>0 | 46=>160 | 45=>159 | 50=>143 | 66=>181 | 39=>151 | 55=>52 | 70=>185 | 76=>196 | 77=>197 | 53=>166 | 5=>5 | 9=>9 | n=>n,fun | n=>n⟩
theorem Tryz.pdq140 : Go.Proofs.SlLaysF0.n14 Tryz.prog Tryz.pdq140_ren:={
 mixed:=by kernel_rfl
 f14:=⟨Tryz.f140.name,by decide,Tryz.func140.trans (congrArg some (by kernel_rfl))⟩
 f15:=Tryz.func134.trans (congrArg some (by kernel_rfl))
 f20:=⟨Tryz.f164.name,by decide,Tryz.func164.trans (congrArg some (by kernel_rfl))⟩
 f21:=⟨Tryz.f165.name,by decide,Tryz.func165.trans (congrArg some (by kernel_rfl))⟩
 f22:=⟨Tryz.f166.name,by decide,Tryz.func166.trans (congrArg some (by kernel_rfl))⟩
 f23:=⟨Tryz.f167.name,by decide,Tryz.func167.trans (congrArg some (by kernel_rfl))⟩
 f24:=⟨Tryz.f168.name,by decide,Tryz.func168.trans (congrArg some (by kernel_rfl))⟩
 f25:=⟨Tryz.f169.name,by decide,Tryz.func169.trans (congrArg some (by kernel_rfl))⟩
 f26:=⟨Tryz.f170.name,by decide,Tryz.func170.trans (congrArg some (by kernel_rfl))⟩
 f27:=⟨Tryz.f171.name,by decide,Tryz.func171.trans (congrArg some (by kernel_rfl))⟩
 f28:=Tryz.func152.trans (congrArg some (by kernel_rfl))
 f29:=Tryz.func153.trans (congrArg some (by kernel_rfl))
 f46:=⟨Tryz.f189.name,by decide,Tryz.func189.trans (congrArg some (by kernel_rfl))⟩
 f47:=Tryz.func174.trans (congrArg some (by kernel_rfl))
 f48:=Tryz.func175.trans (congrArg some (by kernel_rfl))
 f49:=⟨Tryz.f190.name,by decide,Tryz.func190.trans (congrArg some (by kernel_rfl))⟩
 f50:=⟨Tryz.f191.name,by decide,Tryz.func191.trans (congrArg some (by kernel_rfl))⟩
 f57:=⟨Tryz.f197.name,by decide,Tryz.func197.trans (congrArg some (by kernel_rfl))⟩
 t0:=Tryz.underlying0
 a0:=Tryz.isAgg0
 z0:=Tryz.sizeOf0
 v0:=Tryz.zeroValue0
 t3:=Tryz.underlying3
 a3:=Tryz.isAgg3
 z3:=Tryz.sizeOf3
 v3:=Tryz.zeroValue3
 t4:=Tryz.underlying4
 a4:=Tryz.isAgg4
 z4:=Tryz.sizeOf4
 v4:=Tryz.zeroValue4
 t5:=Tryz.underlying5
 a5:=Tryz.isAgg5
 z5:=Tryz.sizeOf5
 v5:=Tryz.zeroValue5
 t9:=Tryz.underlying9
 a9:=Tryz.isAgg9
 z9:=Tryz.sizeOf9
 v9:=Tryz.zeroValue9
 t22:=Tryz.underlying55
 a22:=Tryz.isAgg55
 z22:=Tryz.sizeOf55
 v22:=Tryz.zeroValue55
 t25:=Tryz.underlying75
 a25:=Tryz.isAgg75
 z25:=Tryz.sizeOf75
 v25:=Tryz.zeroValue75
 t39:=Tryz.underlying151
 a39:=Tryz.isAgg151
 z39:=Tryz.sizeOf151
 v39:=Tryz.zeroValue151
 t45:=Tryz.underlying159
 a45:=Tryz.isAgg159
 z45:=Tryz.sizeOf159
 v45:=Tryz.zeroValue159
 t46:=Tryz.underlying160
 a46:=Tryz.isAgg160
 z46:=Tryz.sizeOf160
 v46:=Tryz.zeroValue160
 t50:=Tryz.underlying143
 a50:=Tryz.isAgg143
 z50:=Tryz.sizeOf143
 v50:=Tryz.zeroValue143
 t53:=Tryz.underlying166
 a53:=Tryz.isAgg166
 z53:=Tryz.sizeOf166
 v53:=Tryz.zeroValue166
 t55:=Tryz.underlying52
 a55:=Tryz.isAgg52
 z55:=Tryz.sizeOf52
 v55:=Tryz.zeroValue52
 t66:=Tryz.underlying181
 a66:=Tryz.isAgg181
 z66:=Tryz.sizeOf181
 v66:=Tryz.zeroValue181
 t70:=Tryz.underlying185
 a70:=Tryz.isAgg185
 z70:=Tryz.sizeOf185
 v70:=Tryz.zeroValue185
 t76:=Tryz.underlying196
 a76:=Tryz.isAgg196
 z76:=Tryz.sizeOf196
 v76:=Tryz.zeroValue196
 t77:=Tryz.underlying197
 a77:=Tryz.isAgg197
 z77:=Tryz.sizeOf197
 v77:=Tryz.zeroValue197 }
def Tryz.pdq154_ren : Go.Shelf.Ren:=⟨fun | 14=>154 | 20=>178 | 21=>179 | 22=>180 | 23=>181 | 24=>182 | 25=>183 | 26=>184 | 27=>185 | 46=>193 | 47=>174 | 48=>175 | 49=>194 | 50=>195 | 15=>134 | 57=>198 | 28=>152 | 29=>153 | n=>n,fun | 24=>90 | 22=>60 | 3=>3 | 25=>153 | 4=>4 | 0=>0 | 46=>160 | 45=>159 | 50=>143 | 66=>181 | 39=>151 | 55=>52 | 70=>185 | 76=>196 | 77=>197 | 53=>166 | 5=>5 | 9=>9 | n=>n,fun | n=>n⟩
theorem Tryz.pdq154 : Go.Proofs.SlLaysF0.n14 Tryz.prog Tryz.pdq154_ren:={
 mixed:=by kernel_rfl
 f14:=⟨Tryz.f154.name,by decide,Tryz.func154.trans (congrArg some (by kernel_rfl))⟩
 f15:=Tryz.func134.trans (congrArg some (by kernel_rfl))
 f20:=⟨Tryz.f178.name,by decide,Tryz.func178.trans (congrArg some (by kernel_rfl))⟩
 f21:=⟨Tryz.f179.name,by decide,Tryz.func179.trans (congrArg some (by kernel_rfl))⟩
 f22:=⟨Tryz.f180.name,by decide,Tryz.func180.trans (congrArg some (by kernel_rfl))⟩
 f23:=⟨Tryz.f181.name,by decide,Tryz.func181.trans (congrArg some (by kernel_rfl))⟩
 f24:=⟨Tryz.f182.name,by decide,Tryz.func182.trans (congrArg some (by kernel_rfl))⟩
 f25:=⟨Tryz.f183.name,by decide,Tryz.func183.trans (congrArg some (by kernel_rfl))⟩
 f26:=⟨Tryz.f184.name,by decide,Tryz.func184.trans (congrArg some (by kernel_rfl))⟩
 f27:=⟨Tryz.f185.name,by decide,Tryz.func185.trans (congrArg some (by kernel_rfl))⟩
 f28:=Tryz.func152.trans (congrArg some (by kernel_rfl))
 f29:=Tryz.func153.trans (congrArg some (by kernel_rfl))
 f46:=⟨Tryz.f193.name,by decide,Tryz.func193.trans (congrArg some (by kernel_rfl))⟩
 f47:=Tryz.func174.trans (congrArg some (by kernel_rfl))
 f48:=Tryz.func175.trans (congrArg some (by kernel_rfl))
 f49:=⟨Tryz.f194.name,by decide,Tryz.func194.trans (congrArg some (by kernel_rfl))⟩
 f50:=⟨Tryz.f195.name,by decide,Tryz.func195.trans (congrArg some (by kernel_rfl))⟩
 f57:=⟨Tryz.f198.name,by decide,Tryz.func198.trans (congrArg some (by kernel_rfl))⟩
 t0:=Tryz.underlying0
 a0:=Tryz.isAgg0
 z0:=Tryz.sizeOf0
 v0:=Tryz.zeroValue0
 t3:=Tryz.underlying3
 a3:=Tryz.isAgg3
 z3:=Tryz.sizeOf3
 v3:=Tryz.zeroValue3
 t4:=Tryz.underlying4
 a4:=Tryz.isAgg4
 z4:=Tryz.sizeOf4
 v4:=Tryz.zeroValue4
 t5:=Tryz.underlying5
 a5:=Tryz.isAgg5
 z5:=Tryz.sizeOf5
 v5:=Tryz.zeroValue5
 t9:=Tryz.underlying9
 a9:=Tryz.isAgg9
 z9:=Tryz.sizeOf9
 v9:=Tryz.zeroValue9
 t22:=Tryz.underlying60
 a22:=Tryz.isAgg60
 z22:=Tryz.sizeOf60
 v22:=Tryz.zeroValue60
 t25:=Tryz.underlying153
 a25:=Tryz.isAgg153
 z25:=Tryz.sizeOf153
 v25:=Tryz.zeroValue153
 t39:=Tryz.underlying151
 a39:=Tryz.isAgg151
 z39:=Tryz.sizeOf151
 v39:=Tryz.zeroValue151
 t45:=Tryz.underlying159
 a45:=Tryz.isAgg159
 z45:=Tryz.sizeOf159
 v45:=Tryz.zeroValue159
 t46:=Tryz.underlying160
 a46:=Tryz.isAgg160
 z46:=Tryz.sizeOf160
 v46:=Tryz.zeroValue160
 t50:=Tryz.underlying143
 a50:=Tryz.isAgg143
 z50:=Tryz.sizeOf143
 v50:=Tryz.zeroValue143
 t53:=Tryz.underlying166
 a53:=Tryz.isAgg166
 z53:=Tryz.sizeOf166
 v53:=Tryz.zeroValue166
 t55:=Tryz.underlying52
 a55:=Tryz.isAgg52
 z55:=Tryz.sizeOf52
 v55:=Tryz.zeroValue52
 t66:=Tryz.underlying181
 a66:=Tryz.isAgg181
 z66:=Tryz.sizeOf181
 v66:=Tryz.zeroValue181
 t70:=Tryz.underlying185
 a70:=Tryz.isAgg185
 z70:=Tryz.sizeOf185
 v70:=Tryz.zeroValue185
 t76:=Tryz.underlying196
 a76:=Tryz.isAgg196
 z76:=Tryz.sizeOf196
 v76:=Tryz.zeroValue196
 t77:=Tryz.underlying197
 a77:=Tryz.isAgg197
 z77:=Tryz.sizeOf197
 v77:=Tryz.zeroValue197 }
def Tryz.bits134_ren : Go.Shelf.Ren:=⟨fun | 15=>134 | 28=>152 | 29=>153 | n=>n,fun | 39=>151 | 3=>3 | 53=>166 | 55=>52 | 4=>4 | 5=>5 | 9=>9 | n=>n,fun | n=>n⟩
theorem Tryz.bits134 : Go.Proofs.SlLaysF0.n15 Tryz.prog Tryz.bits134_ren:={
 mixed:=by kernel_rfl
 f15:=Tryz.func134.trans (congrArg some (by kernel_rfl))
 f28:=Tryz.func152.trans (congrArg some (by kernel_rfl))
 f29:=Tryz.func153.trans (congrArg some (by kernel_rfl))
 t3:=Tryz.underlying3
 a3:=Tryz.isAgg3
 z3:=Tryz.sizeOf3
 v3:=Tryz.zeroValue3
 t4:=Tryz.underlying4
 a4:=Tryz.isAgg4
 z4:=Tryz.sizeOf4
 v4:=Tryz.zeroValue4
 t5:=Tryz.underlying5
 a5:=Tryz.isAgg5
 z5:=Tryz.sizeOf5
 v5:=Tryz.zeroValue5
 t9:=Tryz.underlying9
 a9:=Tryz.isAgg9
 z9:=Tryz.sizeOf9
 v9:=Tryz.zeroValue9
 t39:=Tryz.underlying151
 a39:=Tryz.isAgg151
 z39:=Tryz.sizeOf151
 v39:=Tryz.zeroValue151
 t53:=Tryz.underlying166
 a53:=Tryz.isAgg166
 z53:=Tryz.sizeOf166
 v53:=Tryz.zeroValue166
 t55:=Tryz.underlying52
 a55:=Tryz.isAgg52
 z55:=Tryz.sizeOf52
 v55:=Tryz.zeroValue52 }
end Go.Proofs
namespace Go.Ep
open Go.Shelf Go.RowKit Go.Lib Go.Sort Go.Proofs
theorem SortLaw.of{α:Type}[Inhabited α]{P:Program}{f g:FuncId}{k:Nat}{enc:α->List Value}{lt:α->α->Bool}{cf:α->α->Int}(hO:SWO (ltOf cf))(hlt:∀ x y,ltOf cf x y=lt x y)(hk:∀ x,(enc x).length=k)
  (hnil:∀ w:World,Calls P f #[.slice none 0 0,.func (.func g) #[] #[]] w fun e w'=>e=.returned (.tuple #[])/\Go.RowKit.Below w.heap.size w w')
  (hrow:∀ (blk off cap:Nat) (d:Array α) (w:World),HoldsK enc k w blk off d->blk < w.heap.size->d.size < 4611686018427387904 ->
   Calls P f #[.slice (some ⟨blk,off,none⟩) d.size cap,.func (.func g) #[] #[]] w fun e w'=>e=.returned (.tuple #[])/\∃ n os,w'=sortWorldK enc k w blk off n (pdq (ltOf cf) d 0 d.size (Lib.bitLen d.size) true true) os):SortLaw P f g k enc lt:=by
 refine⟨hnil,fun w blk cap l T cur hh hlc hcs hlen hcells=>?_⟩;have hblk:blk < w.heap.size:=(Array.getElem?_eq_some_iff.1 hh).1;have hH:HoldsK enc k w blk 0 l.toArray:=by
  intro j hj;rw[size_flatK] at hj;have hj':j < l.length*k:=by simpa using hj
  obtain⟨hk0,h1,h2,h3⟩:=Wz hj'
  constructor
  ·rw[Nat.zero_add,zU hh];show _=some ((flatK enc k l.toArray)[j]!);rw[get_flatK _ _ _ _ hj];have hx:l[j / k]?=some l[j / k]:=List.getElem?_eq_getElem h1;have hlk:(enc l[j / k]).length=k:=hk _;have hu:(enc l[j / k])[j % k]?=some ((enc l[j / k])[j % k]'(by omega)):=List.getElem?_eq_getElem (by omega);have:=hcells (j / k) _ (j % k) _ hx hu;rw[h3] at this;rw[this];have e1:(l.toArray)[j / k]! = l[j / k]:=by simp[h1]
   rw[e1];simp[hu]
  ·simp[World.frozen?,hh]
 have hd:l.toArray.size=l.length:=by simp
 have hcall:=hrow blk 0 cap l.toArray w hH hblk (by simpa using hlen);rw[hd] at hcall;refine hcall.mono fun e w' ⟨he,n,os,hw⟩=>⟨he,?_⟩
 have hp:=pdq_sorts (ltOf cf) hO l.toArray 0 l.toArray.size (Lib.bitLen l.toArray.size) true true (Nat.zero_le _) (Nat.le_refl _) (Or.inl rfl);rw[hd] at hp
 generalize pdq (ltOf cf) l.toArray 0 l.length (Lib.bitLen l.length) true true=d' at hp hw
 obtain⟨⟨hsz,_,hperm⟩,hsort⟩:=hp;have hsz':d'.size=l.length:=by simpa using hsz
 have hp':d'.toList.Perm l:=by
  have e1:(d'.extract 0 l.length).toList=d'.toList:=by rw[<- hsz'];simp
  have e2:(l.toArray.extract 0 l.length).toList=l:=by simp
  rw[e1,e2] at hperm;exact hperm
 have hmod:∀ b,b < w.heap.size->(sortWorldK enc k w blk 0 n d' os).heap[b]?=if blk=b then (w.heap[b]?).map (onCells (putCells id 0 (flatK enc k d'))) else w.heap[b]?:=by
  intro b hb;have hb2:b < (putRowK enc k (Sort.ahead w n) blk 0 d').heap.size:=by simpa[putRowK,Sort.ahead] using hb
  show(grow (putRowK enc k (Sort.ahead w n) blk 0 d') os).heap[b]?=_;rw[Sort.heap_grow_old _ _ hb2];show((w.heap.modify blk (onCells (putCells id 0 (flatK enc k d')))))[b]?=_;rw[Array.getElem?_modify]
 subst hw;refine⟨d'.toList,(putCells id 0 (flatK enc k d') cur.toArray).toList,hp',?_,?_,?_,?_,rfl,rfl,rfl,?_,?_⟩
 ·rw[List.pairwise_iff_getElem];intro i j hi hj hij;have:=hsort i j (Nat.zero_le _) hij (by simpa[hsz'] using hj);rw[hlt] at this;have hi':i < d'.size:=by simpa using hi
  have hj':j < d'.size:=by simpa using hj
  simpa[hi',hj'] using this
 ·rw[hmod blk hblk,if_pos rfl,hh];simp[onCells]
 ·simp[putCells]
 ·intro i x j u hi hu;have hi':i < l.length:=by rw[<- hsz'];have:=(List.getElem?_eq_some_iff.1 hi).1;simpa using this
  have hj:j < k:=by rw[<- hk x];exact(List.getElem?_eq_some_iff.1 hu).1
  have hlt2:i*k+j < l.length*k:=vl hi' hj;have hcl:l.length*k<=cur.length:=by rw[hcs];exact Nat.mul_le_mul_right k hlc
  have hin:i*k+j < d'.size*k:=by rw[hsz'];exact hlt2
  have hget:(flatK enc k d')[i*k+j]! = u:=by
   rw[get_flatK _ _ _ _ hin];have hk0:0 < k:=by omega
   have e1:(i*k+j) / k=i:=by rw[Nat.mul_comm,Nat.mul_add_div hk0,Nat.div_eq_of_lt hj];omega
   have e2:(i*k+j) % k=j:=by rw[Nat.mul_comm,Nat.mul_add_mod,Nat.mod_eq_of_lt hj]
   rw[e1,e2];have e3:d'[i]! = x:=by
    obtain⟨h1,h2⟩:=List.getElem?_eq_some_iff.1 hi;have h1':i < d'.size:=by simpa using h1
    rw[getElem!_pos d' i h1'];simpa using h2
   rw[e3];simp[hu]
  have hc2:i*k+j < cur.length:=by omega
  simp only[putCells,Array.toList_mapIdx,List.getElem?_mapIdx];rw[List.getElem?_eq_getElem hc2];simp only[Option.map_some,id];rw[if_pos ⟨Nat.zero_le _,by rw[size_flatK];omega⟩,Nat.sub_zero,hget]
 ·show w.heap.size<=(grow (putRowK enc k (Sort.ahead w n) blk 0 d') os).heap.size;simp[grow,putRowK,Sort.ahead]
 ·intro b hb hne;rw[hmod b hb,if_neg (Ne.symm hne)]
end Go.Ep
namespace Go.Proofs
set_option linter.unusedSimpArgs false
set_option linter.unusedVariables false
open Go.Shelf Go.RowKit Go.Lib Go.Sort Go.Ep
theorem vYa(a:Int)(W:World):Calls Tryz.prog 117 #[.int .u16 a] W fun e w'=>e=.returned (.bool false)/\w'=W:=by
 go_enter Tryz.func117,Tryz.ntmps117
 go_wp2
 go_ret
 exact⟨by simp,rfl⟩
theorem vZa(a b:Int)(W:World):Calls Tryz.prog 76 #[.int .u16 a,.int .u16 b] W fun e w'=>e=.returned (.int .i64 (Lib.compareInt a b))/\w'=W:=by
 unfold Lib.compareInt
 by_cases h1:a < b
 ·go_enter Tryz.func76,Tryz.ntmps76
  go_wp2_with (go_at_call 117;refine(vYa _ _).mono ?_;rintro e w' ⟨rfl,rfl⟩)
  go_ret
  exact⟨by simp[h1],rfl⟩
 ·by_cases h2:b < a
  ·go_enter Tryz.func76,Tryz.ntmps76
   go_wp2_with (go_at_call 117;refine(vYa _ _).mono ?_;rintro e w' ⟨rfl,rfl⟩)
   go_ret
   exact⟨by simp[h1,h2],rfl⟩
  ·go_enter Tryz.func76,Tryz.ntmps76
   go_wp2_with (go_at_call 117;refine(vYa _ _).mono ?_;rintro e w' ⟨rfl,rfl⟩)
   go_ret
   exact⟨by simp[h1,h2],rfl⟩
theorem vaa(a:Int)(W:World):Calls Tryz.prog 118 #[.int .u64 a] W fun e w'=>e=.returned (.bool false)/\w'=W:=by
 go_enter Tryz.func118,Tryz.ntmps118
 go_wp2
 go_ret
 exact⟨by simp,rfl⟩
theorem vba(a b:Int)(W:World):Calls Tryz.prog 77 #[.int .u64 a,.int .u64 b] W fun e w'=>e=.returned (.int .i64 (Lib.compareInt a b))/\w'=W:=by
 unfold Lib.compareInt
 by_cases h1:a < b
 ·go_enter Tryz.func77,Tryz.ntmps77
  go_wp2_with (go_at_call 118;refine(vaa _ _).mono ?_;rintro e w' ⟨rfl,rfl⟩)
  go_ret
  exact⟨by simp[h1],rfl⟩
 ·by_cases h2:b < a
  ·go_enter Tryz.func77,Tryz.ntmps77
   go_wp2_with (go_at_call 118;refine(vaa _ _).mono ?_;rintro e w' ⟨rfl,rfl⟩)
   go_ret
   exact⟨by simp[h1,h2],rfl⟩
  ·go_enter Tryz.func77,Tryz.ntmps77
   go_wp2_with (go_at_call 118;refine(vaa _ _).mono ?_;rintro e w' ⟨rfl,rfl⟩)
   go_ret
   exact⟨by simp[h1,h2],rfl⟩
theorem vca(W:World)(a b:Array Obj)(q:Nat):grow ((grow W a).drewN q) b=grow (W.drewN q) (a++b):=by
 show grow (grow (W.drewN q) a) b=_;rw[grow_grow]
def ji(a b c d:Int):Int:=if Lib.compareInt a c≠0 then Lib.compareInt a c else Lib.compareInt b d
theorem wOa(a b c d:Int)(W:World):Calls Tryz.prog 30 #[.agg #[.int .u16 a,.int .u64 b],.agg #[.int .u16 c,.int .u64 d]] W fun e w'=>e=.returned (.int .i64 (ji a b c d))/\∃ q os',w'=grow (W.drewN q) os':=by
 have c1:=fun W'=>vZa a c W'
 have c2:=fun W'=>vba b d W'
 unfold ji
 generalize Lib.compareInt a c=r1 at c1 ⊢
 generalize Lib.compareInt b d=r2 at c2 ⊢
 by_cases h:r1=0
 ·subst h
  go_enter Tryz.func30,Tryz.ntmps30
  go_wp2_with (first | (go_at_call 76;refine(c1 _).mono ?_;rintro e w' ⟨rfl,rfl⟩) | (go_at_call 77;refine(c2 _).mono ?_;rintro e w' ⟨rfl,rfl⟩))
  go_ret
  exact⟨by simp,0,_,by rw[alloc_eq_grow,alloc_eq_grow,grow_grow];rfl⟩
 ·go_enter Tryz.func30,Tryz.ntmps30
  go_wp2_with (first | (go_at_call 76;refine(c1 _).mono ?_;rintro e w' ⟨rfl,rfl⟩) | (go_at_call 77;refine(c2 _).mono ?_;rintro e w' ⟨rfl,rfl⟩))
  go_ret
  exact⟨by simp[h],0,_,by rw[alloc_eq_grow,alloc_eq_grow,grow_grow];rfl⟩
structure RawTEvent where
 dot_dev_:Int
 dot_n_:Int
 c2:Value
 h2:c2.oneCell'=true
 c3:Value
 h3:c3.oneCell'=true
 c4:Value
 h4:c4.oneCell'=true
 c5:Value
 h5:c5.oneCell'=true
 c6:Value
 h6:c6.oneCell'=true
def RawTEvent.v(r:RawTEvent):List Value:=[.int .u16 r.dot_dev_,.int .u64 r.dot_n_,r.c2,r.c3,r.c4,r.c5,r.c6]
theorem RawTEvent.v1(r:RawTEvent):∀ u∈r.v,u.oneCell'=true:=by
 intro u hu;simp only[RawTEvent.v,List.mem_cons,List.not_mem_nil,or_false] at hu;rcases hu with rfl | rfl | rfl | rfl | rfl | rfl | rfl
 ·rfl
 ·rfl
 ·exact r.h2
 ·exact r.h3
 ·exact r.h4
 ·exact r.h5
 ·exact r.h6
def RawTEvent.R(x:EV)(r:RawTEvent):Prop:=r.dot_dev_=x.dot.dev/\r.dot_n_=x.dot.n
theorem RawTEvent.raw(w:World)(S:Nat->Prop)(x:EV)(us:List Value)(hl:us.length=7)(h:∀ (j:Nat) (d:DV) (u:Value),(EV.e x)[j]?=some d->us[j]?=some u->DRd w S d u):∃ r:RawTEvent,r.v=us/\RawTEvent.R x r:=by
 match us,hl with
 | [u0,u1,u2,u3,u4,u5,u6],_=>
  refine⟨⟨x.dot.dev,x.dot.n,u2,(h 2 _ u2 rfl rfl).one,u3,(h 3 _ u3 rfl rfl).one,u4,(h 4 _ u4 rfl rfl).one,u5,(h 5 _ u5 rfl rfl).one,u6,(h 6 _ u6 rfl rfl).one⟩,?_,⟨rfl,rfl⟩⟩;have e0:=h 0 _ u0 rfl rfl
  cases e0
  have e1:=h 1 _ u1 rfl rfl
  cases e1
  rfl
def zYa(x y:RawTEvent):Int:=ji x.dot_dev_ x.dot_n_ y.dot_dev_ y.dot_n_
theorem vda(x y:RawTEvent)(W:World):Calls Tryz.prog 106 #[.agg #[.int .u16 x.dot_dev_,.int .u64 x.dot_n_,x.c2,x.c3,x.c4,x.c5,x.c6],.agg #[.int .u16 y.dot_dev_,.int .u64 y.dot_n_,y.c2,y.c3,y.c4,y.c5,y.c6]] W fun e w'=>e=.returned (.int .i64 (zYa x y))/\∃ q os',w'=grow (W.drewN q) os':=by
 have c1:=fun W'=>wOa x.dot_dev_ x.dot_n_ y.dot_dev_ y.dot_n_ W'
 unfold zYa
 generalize ji x.dot_dev_ x.dot_n_ y.dot_dev_ y.dot_n_=r1 at c1 ⊢
 go_enter Tryz.func106,Tryz.ntmps106
 go_wp2_with (go_at_call 30;refine(c1 _).mono ?_;rintro e w' ⟨rfl,q,os',rfl⟩)
 go_ret
 exact⟨rfl,q,_,by rw[alloc_eq_grow,alloc_eq_grow,grow_grow,vca]⟩
theorem QD(x y:RawTEvent):ltOf zYa x y=(fun x y:RawTEvent=>decide (x.dot_dev_ < y.dot_dev_)||(decide (x.dot_dev_=y.dot_dev_)&&decide (x.dot_n_ < y.dot_n_))) x y:=by
 unfold ltOf zYa ji Lib.compareInt ;rw[Bool.eq_iff_iff];simp only[decide_eq_true_eq,Bool.or_eq_true,Bool.and_eq_true]
 split <;> (repeat' split) <;> omega
theorem xca : SWO (ltOf zYa) where
 irrefl x:=by rw[QD];simp[]
 trans x y z h1 h2:=by rw[QD] at *;simp[] at *;omega
 ntrans x y z h1 h2:=by rw[QD] at *;simp[] at *;omega
instance inhcf105 : Inhabited RawTEvent:=⟨⟨0,0,.int .u64 0,rfl,.int .u64 0,rfl,.int .u64 0,rfl,.int .u64 0,rfl,.int .u64 0,rfl⟩⟩
theorem vea(blk off size:Nat)(w:World):CmpLays Tryz.prog 106 #[] RawTEvent.v 7 zYa blk off size w:=fun _ _ _ _ x y=>vda x y _
set_option maxHeartbeats 2000000 in
set_option maxRecDepth 100000 in
theorem wPa(blk off cap:Nat)(d:Array RawTEvent)(w:World)(hH:HoldsK RawTEvent.v 7 w blk off d)(hblk:blk < w.heap.size)(hsz:d.size < 4611686018427387904) :
  Calls Tryz.prog 105 #[.slice (some ⟨blk,off,none⟩) d.size cap,.func (.func 106) #[] #[]] w fun e w'=>e=.returned (.tuple #[])/\∃ n os,w'=sortWorldK RawTEvent.v 7 w blk off n (pdq (ltOf zYa) d 0 d.size (Lib.bitLen d.size) true true) os:=by
 have eg:∀ args w,(callFunc 106 args).run Tryz.prog w=.ok (.enter 106 args) w:=Tryz.call106;have e14:=Tryz.call133;have e15:=Tryz.call134;have hlim:Lib.bitLen d.size < 4611686018427387904:=Nat.lt_of_le_of_lt (Lib.bitLen_le d.size 62 (by omega) (by omega)) (by omega);have hp:=AnyQ.pdqsortCmpFunc_all Tryz.pdq133 7 Tryz.isAgg57 Tryz.sizeOf57 RawTEvent.v zYa 106 #[] xca blk off cap d w eg (vea blk off d.size w) ⟨fun _=>rfl,RawTEvent.v1,hH,hblk⟩ (d.size+1) 0 d.size (Lib.bitLen d.size) d w (by omega) rfl (SWK.start hH) (Nat.zero_le _) (Nat.le_refl _) hsz hlim (Or.inl rfl)
 change Calls Tryz.prog 133 _ _ _ at hp
 have hl:Calls Tryz.prog 134 #[.int .u64 (d.size:Int)] w fun e w'=>e=.returned (.int .i64 (Lib.bitLen d.size:Nat))/\w'=w:=by
  have h:=Any.bits_Len (SlLaysF0.n15.bits Tryz.bits134) (d.size:Int) w (by omega) (by omega)
  rwa [Int.toNat_natCast] at h
 have wr:IntKind.u64.wrap (d.size:Int)=d.size:=by simp[IntKind.wrap,IntKind.bits,IntKind.signed];omega
 clear hH
 go_enter Tryz.func105,Tryz.ntmps105
 go_wp2_with (first | (go_at_call 134;refine hl.mono ?_;rintro e w' ⟨rfl,rfl⟩) | (go_at_call 133;refine hp.mono ?_;rintro e w' ⟨rfl,n,os,rfl⟩))
 go_end0
 exact⟨rfl,n,os,rfl⟩
theorem yZa(w:World):Calls Tryz.prog 105 #[.slice none 0 0,.func (.func 106) #[] #[]] w fun e w'=>e=.returned (.tuple #[])/\Go.RowKit.Below w.heap.size w w':=by
 have e14:=Tryz.call133;have e15:=Tryz.call134;have hp:=fun lim W=>AnyF.pdqsortCmpFunc_none Tryz.pdq133 none 0 lim (.func (.func 106) #[] #[]) W
 have hl:∀ W,Calls Tryz.prog 134 #[.int .u64 0] W fun e w'=>e=.returned (.int .i64 (Lib.bitLen 0:Nat))/\w'=W:=fun W=>by
  have h:=Any.bits_Len (SlLaysF0.n15.bits Tryz.bits134) 0 W (by omega) (by omega);exact h
 go_enter Tryz.func105,Tryz.ntmps105
 go_wp2_with (first | (go_at_call 134;refine(hl _).mono ?_;rintro e w' ⟨rfl,rfl⟩) | (go_at_call 133;refine(hp _ _).mono ?_;rintro e w' ⟨rfl,rfl⟩))
 go_end0
 exact⟨rfl,Go.RowKit.Below.refl _ _⟩
theorem UM : SortLaw Tryz.prog 105 106 7 RawTEvent.v (fun x y:RawTEvent=>decide (x.dot_dev_ < y.dot_dev_)||(decide (x.dot_dev_=y.dot_dev_)&&decide (x.dot_n_ < y.dot_n_))):=SortLaw.of xca QD (fun _=>rfl) yZa (fun blk off cap d w hH hblk hsz=>wPa blk off cap d w hH hblk hsz)
theorem vfa(x y:EV)(r r':RawTEvent)(h1:RawTEvent.R x r)(h2:RawTEvent.R y r'):((fun x y:RawTEvent=>decide (x.dot_dev_ < y.dot_dev_)||(decide (x.dot_dev_=y.dot_dev_)&&decide (x.dot_n_ < y.dot_n_)))) r r'=Zq x y:=by simp only[RawTEvent.R] at h1 h2;simp[h1,h2,Zq]
structure RawTPart where
 dev_:Int
 c1:Value
 h1:c1.oneCell'=true
def RawTPart.v(r:RawTPart):List Value:=[.int .u16 r.dev_,r.c1]
theorem RawTPart.v1(r:RawTPart):∀ u∈r.v,u.oneCell'=true:=by
 intro u hu;simp only[RawTPart.v,List.mem_cons,List.not_mem_nil,or_false] at hu;rcases hu with rfl | rfl
 ·rfl
 ·exact r.h1
def RawTPart.R(x:PT)(r:RawTPart):Prop:=r.dev_=x.dev
theorem RawTPart.raw(w:World)(S:Nat->Prop)(x:PT)(us:List Value)(hl:us.length=2)(h:∀ (j:Nat) (d:DV) (u:Value),(PT.e x)[j]?=some d->us[j]?=some u->DRd w S d u):∃ r:RawTPart,r.v=us/\RawTPart.R x r:=by
 match us,hl with
 | [u0,u1],_=>
  refine⟨⟨x.dev,u1,(h 1 _ u1 rfl rfl).one⟩,?_,rfl⟩;have e0:=h 0 _ u0 rfl rfl
  cases e0
  rfl
def zZa(x y:RawTPart):Int:=Lib.compareInt x.dev_ y.dev_
theorem vga(x y:RawTPart)(W:World):Calls Tryz.prog 115 #[.agg #[.int .u16 x.dev_,x.c1],.agg #[.int .u16 y.dev_,y.c1]] W fun e w'=>e=.returned (.int .i64 (zZa x y))/\∃ q os',w'=grow (W.drewN q) os':=by
 have c1:=fun W'=>vZa x.dev_ y.dev_ W'
 unfold zZa
 generalize Lib.compareInt x.dev_ y.dev_=r1 at c1 ⊢
 go_enter Tryz.func115,Tryz.ntmps115
 go_wp2_with (go_at_call 76;refine(c1 _).mono ?_;rintro e w' ⟨rfl,rfl⟩)
 go_ret
 exact⟨rfl,0,_,by rw[alloc_eq_grow,alloc_eq_grow,grow_grow];rfl⟩
theorem QE(x y:RawTPart):ltOf zZa x y=(fun x y:RawTPart=>decide (x.dev_ < y.dev_)) x y:=by
 unfold ltOf zZa Lib.compareInt ;rw[Bool.eq_iff_iff];simp only[decide_eq_true_eq,Bool.or_eq_true,Bool.and_eq_true]
 split <;> (repeat' split) <;> omega
theorem xda : SWO (ltOf zZa) where
 irrefl x:=by rw[QE];simp[]
 trans x y z h1 h2:=by rw[QE] at *;simp[] at *;omega
 ntrans x y z h1 h2:=by rw[QE] at *;simp[] at *;omega
instance inhcf114 : Inhabited RawTPart:=⟨⟨0,.int .u64 0,rfl⟩⟩
theorem vha(blk off size:Nat)(w:World):CmpLays Tryz.prog 115 #[] RawTPart.v 2 zZa blk off size w:=fun _ _ _ _ x y=>vga x y _
set_option maxHeartbeats 2000000 in
set_option maxRecDepth 100000 in
theorem wQa(blk off cap:Nat)(d:Array RawTPart)(w:World)(hH:HoldsK RawTPart.v 2 w blk off d)(hblk:blk < w.heap.size)(hsz:d.size < 4611686018427387904) :
  Calls Tryz.prog 114 #[.slice (some ⟨blk,off,none⟩) d.size cap,.func (.func 115) #[] #[]] w fun e w'=>e=.returned (.tuple #[])/\∃ n os,w'=sortWorldK RawTPart.v 2 w blk off n (pdq (ltOf zZa) d 0 d.size (Lib.bitLen d.size) true true) os:=by
 have eg:∀ args w,(callFunc 115 args).run Tryz.prog w=.ok (.enter 115 args) w:=Tryz.call115;have e14:=Tryz.call138;have e15:=Tryz.call134;have hlim:Lib.bitLen d.size < 4611686018427387904:=Nat.lt_of_le_of_lt (Lib.bitLen_le d.size 62 (by omega) (by omega)) (by omega);have hp:=AnyQ.pdqsortCmpFunc_all Tryz.pdq138 2 Tryz.isAgg62 Tryz.sizeOf62 RawTPart.v zZa 115 #[] xda blk off cap d w eg (vha blk off d.size w) ⟨fun _=>rfl,RawTPart.v1,hH,hblk⟩ (d.size+1) 0 d.size (Lib.bitLen d.size) d w (by omega) rfl (SWK.start hH) (Nat.zero_le _) (Nat.le_refl _) hsz hlim (Or.inl rfl)
 change Calls Tryz.prog 138 _ _ _ at hp
 have hl:Calls Tryz.prog 134 #[.int .u64 (d.size:Int)] w fun e w'=>e=.returned (.int .i64 (Lib.bitLen d.size:Nat))/\w'=w:=by
  have h:=Any.bits_Len (SlLaysF0.n15.bits Tryz.bits134) (d.size:Int) w (by omega) (by omega)
  rwa [Int.toNat_natCast] at h
 have wr:IntKind.u64.wrap (d.size:Int)=d.size:=by simp[IntKind.wrap,IntKind.bits,IntKind.signed];omega
 clear hH
 go_enter Tryz.func114,Tryz.ntmps114
 go_wp2_with (first | (go_at_call 134;refine hl.mono ?_;rintro e w' ⟨rfl,rfl⟩) | (go_at_call 138;refine hp.mono ?_;rintro e w' ⟨rfl,n,os,rfl⟩))
 go_end0
 exact⟨rfl,n,os,rfl⟩
theorem yaa(w:World):Calls Tryz.prog 114 #[.slice none 0 0,.func (.func 115) #[] #[]] w fun e w'=>e=.returned (.tuple #[])/\Go.RowKit.Below w.heap.size w w':=by
 have e14:=Tryz.call138;have e15:=Tryz.call134;have hp:=fun lim W=>AnyF.pdqsortCmpFunc_none Tryz.pdq138 none 0 lim (.func (.func 115) #[] #[]) W
 have hl:∀ W,Calls Tryz.prog 134 #[.int .u64 0] W fun e w'=>e=.returned (.int .i64 (Lib.bitLen 0:Nat))/\w'=W:=fun W=>by
  have h:=Any.bits_Len (SlLaysF0.n15.bits Tryz.bits134) 0 W (by omega) (by omega);exact h
 go_enter Tryz.func114,Tryz.ntmps114
 go_wp2_with (first | (go_at_call 134;refine(hl _).mono ?_;rintro e w' ⟨rfl,rfl⟩) | (go_at_call 138;refine(hp _ _).mono ?_;rintro e w' ⟨rfl,rfl⟩))
 go_end0
 exact⟨rfl,Go.RowKit.Below.refl _ _⟩
theorem qB : SortLaw Tryz.prog 114 115 2 RawTPart.v (fun x y:RawTPart=>decide (x.dev_ < y.dev_)):=SortLaw.of xda QE (fun _=>rfl) yaa (fun blk off cap d w hH hblk hsz=>wQa blk off cap d w hH hblk hsz)
theorem rlt114(x y:PT)(r r':RawTPart)(h1:RawTPart.R x r)(h2:RawTPart.R y r'):((fun x y:RawTPart=>decide (x.dev_ < y.dev_))) r r'=jc x y:=by simp only[RawTPart.R] at h1 h2;simp[h1,h2,jc]
def zaa(x y:DT):Int:=if Lib.compareInt x.dev y.dev≠0 then Lib.compareInt x.dev y.dev else Lib.compareInt x.n y.n
theorem via(x y:DT)(W:World):Calls Tryz.prog 30 #[.agg #[.int .u16 x.dev,.int .u64 x.n],.agg #[.int .u16 y.dev,.int .u64 y.n]] W fun e w'=>e=.returned (.int .i64 (zaa x y))/\∃ q os',w'=grow (W.drewN q) os':=by
 have c1:=fun W'=>vZa x.dev y.dev W'
 have c2:=fun W'=>vba x.n y.n W'
 unfold zaa
 generalize Lib.compareInt x.dev y.dev=r1 at c1 ⊢
 generalize Lib.compareInt x.n y.n=r2 at c2 ⊢
 by_cases h:r1=0
 ·subst h
  go_enter Tryz.func30,Tryz.ntmps30
  go_wp2_with (first | (go_at_call 76;refine(c1 _).mono ?_;rintro e w' ⟨rfl,rfl⟩) | (go_at_call 77;refine(c2 _).mono ?_;rintro e w' ⟨rfl,rfl⟩))
  go_ret
  exact⟨by simp,0,_,by rw[alloc_eq_grow,alloc_eq_grow,grow_grow];rfl⟩
 ·go_enter Tryz.func30,Tryz.ntmps30
  go_wp2_with (first | (go_at_call 76;refine(c1 _).mono ?_;rintro e w' ⟨rfl,rfl⟩) | (go_at_call 77;refine(c2 _).mono ?_;rintro e w' ⟨rfl,rfl⟩))
  go_ret
  exact⟨by simp[h],0,_,by rw[alloc_eq_grow,alloc_eq_grow,grow_grow];rfl⟩
theorem QF(x y:DT):ltOf zaa x y=zY x y:=by
 unfold ltOf zaa Lib.compareInt zY;rw[Bool.eq_iff_iff];simp only[decide_eq_true_eq,Bool.or_eq_true,Bool.and_eq_true]
 split <;> (repeat' split) <;> omega
theorem xea : SWO (ltOf zaa) where
 irrefl x:=by rw[QF];simp[zY]
 trans x y z h1 h2:=by rw[QF] at *;simp[zY] at *;omega
 ntrans x y z h1 h2:=by rw[QF] at *;simp[zY] at *;omega
instance inhcf123 : Inhabited DT:=⟨⟨0,0⟩⟩
theorem vja(blk off size:Nat)(w:World):CmpLays Tryz.prog 30 #[] DT.v 2 zaa blk off size w:=fun _ _ _ _ x y=>via x y _
set_option maxHeartbeats 2000000 in
set_option maxRecDepth 100000 in
theorem wRa(blk off cap:Nat)(d:Array DT)(w:World)(hH:HoldsK DT.v 2 w blk off d)(hblk:blk < w.heap.size)(hsz:d.size < 4611686018427387904) :
  Calls Tryz.prog 123 #[.slice (some ⟨blk,off,none⟩) d.size cap,.func (.func 30) #[] #[]] w fun e w'=>e=.returned (.tuple #[])/\∃ n os,w'=sortWorldK DT.v 2 w blk off n (pdq (ltOf zaa) d 0 d.size (Lib.bitLen d.size) true true) os:=by
 have eg:∀ args w,(callFunc 30 args).run Tryz.prog w=.ok (.enter 30 args) w:=Tryz.call30;have e14:=Tryz.call140;have e15:=Tryz.call134;have hlim:Lib.bitLen d.size < 4611686018427387904:=Nat.lt_of_le_of_lt (Lib.bitLen_le d.size 62 (by omega) (by omega)) (by omega);have hp:=AnyQ.pdqsortCmpFunc_all Tryz.pdq140 2 Tryz.isAgg54 Tryz.sizeOf54 DT.v zaa 30 #[] xea blk off cap d w eg (vja blk off d.size w) ⟨fun _=>rfl,DT.v1,hH,hblk⟩ (d.size+1) 0 d.size (Lib.bitLen d.size) d w (by omega) rfl (SWK.start hH) (Nat.zero_le _) (Nat.le_refl _) hsz hlim (Or.inl rfl)
 change Calls Tryz.prog 140 _ _ _ at hp
 have hl:Calls Tryz.prog 134 #[.int .u64 (d.size:Int)] w fun e w'=>e=.returned (.int .i64 (Lib.bitLen d.size:Nat))/\w'=w:=by
  have h:=Any.bits_Len (SlLaysF0.n15.bits Tryz.bits134) (d.size:Int) w (by omega) (by omega)
  rwa [Int.toNat_natCast] at h
 have wr:IntKind.u64.wrap (d.size:Int)=d.size:=by simp[IntKind.wrap,IntKind.bits,IntKind.signed];omega
 clear hH
 go_enter Tryz.func123,Tryz.ntmps123
 go_wp2_with (first | (go_at_call 134;refine hl.mono ?_;rintro e w' ⟨rfl,rfl⟩) | (go_at_call 140;refine hp.mono ?_;rintro e w' ⟨rfl,n,os,rfl⟩))
 go_end0
 exact⟨rfl,n,os,rfl⟩
theorem yba(w:World):Calls Tryz.prog 123 #[.slice none 0 0,.func (.func 30) #[] #[]] w fun e w'=>e=.returned (.tuple #[])/\Go.RowKit.Below w.heap.size w w':=by
 have e14:=Tryz.call140;have e15:=Tryz.call134;have hp:=fun lim W=>AnyF.pdqsortCmpFunc_none Tryz.pdq140 none 0 lim (.func (.func 30) #[] #[]) W
 have hl:∀ W,Calls Tryz.prog 134 #[.int .u64 0] W fun e w'=>e=.returned (.int .i64 (Lib.bitLen 0:Nat))/\w'=W:=fun W=>by
  have h:=Any.bits_Len (SlLaysF0.n15.bits Tryz.bits134) 0 W (by omega) (by omega);exact h
 go_enter Tryz.func123,Tryz.ntmps123
 go_wp2_with (first | (go_at_call 134;refine(hl _).mono ?_;rintro e w' ⟨rfl,rfl⟩) | (go_at_call 140;refine(hp _ _).mono ?_;rintro e w' ⟨rfl,rfl⟩))
 go_end0
 exact⟨rfl,Go.RowKit.Below.refl _ _⟩
theorem vka : SortLaw Tryz.prog 123 30 2 DT.v zY:=SortLaw.of xea QF (fun _=>rfl) yba (fun blk off cap d w hH hblk hsz=>wRa blk off cap d w hH hblk hsz)
def zba(x y:RN):Int:=Lib.compareInt x.lo y.lo
theorem vla(x y:RN)(W:World):Calls Tryz.prog 137 #[.agg #[.int .u64 x.lo,.int .u64 x.hi],.agg #[.int .u64 y.lo,.int .u64 y.hi]] W fun e w'=>e=.returned (.int .i64 (zba x y))/\∃ q os',w'=grow (W.drewN q) os':=by
 have c1:=fun W'=>vba x.lo y.lo W'
 unfold zba
 generalize Lib.compareInt x.lo y.lo=r1 at c1 ⊢
 go_enter Tryz.func137,Tryz.ntmps137
 go_wp2_with (go_at_call 77;refine(c1 _).mono ?_;rintro e w' ⟨rfl,rfl⟩)
 go_ret
 exact⟨rfl,0,_,by rw[alloc_eq_grow,alloc_eq_grow,grow_grow];rfl⟩
theorem QG(x y:RN):ltOf zba x y=Je x y:=by
 unfold ltOf zba Lib.compareInt Je;rw[Bool.eq_iff_iff];simp only[decide_eq_true_eq,Bool.or_eq_true,Bool.and_eq_true]
 split <;> (repeat' split) <;> omega
theorem xfa : SWO (ltOf zba) where
 irrefl x:=by rw[QG];simp[Je]
 trans x y z h1 h2:=by rw[QG] at *;simp[Je] at *;omega
 ntrans x y z h1 h2:=by rw[QG] at *;simp[Je] at *;omega
instance inhcf136 : Inhabited RN:=⟨⟨0,0⟩⟩
theorem vma(blk off size:Nat)(w:World):CmpLays Tryz.prog 137 #[] RN.v 2 zba blk off size w:=fun _ _ _ _ x y=>vla x y _
set_option maxHeartbeats 2000000 in
set_option maxRecDepth 100000 in
theorem wSa(blk off cap:Nat)(d:Array RN)(w:World)(hH:HoldsK RN.v 2 w blk off d)(hblk:blk < w.heap.size)(hsz:d.size < 4611686018427387904) :
  Calls Tryz.prog 136 #[.slice (some ⟨blk,off,none⟩) d.size cap,.func (.func 137) #[] #[]] w fun e w'=>e=.returned (.tuple #[])/\∃ n os,w'=sortWorldK RN.v 2 w blk off n (pdq (ltOf zba) d 0 d.size (Lib.bitLen d.size) true true) os:=by
 have eg:∀ args w,(callFunc 137 args).run Tryz.prog w=.ok (.enter 137 args) w:=Tryz.call137;have e14:=Tryz.call154;have e15:=Tryz.call134;have hlim:Lib.bitLen d.size < 4611686018427387904:=Nat.lt_of_le_of_lt (Lib.bitLen_le d.size 62 (by omega) (by omega)) (by omega);have hp:=AnyQ.pdqsortCmpFunc_all Tryz.pdq154 2 Tryz.isAgg90 Tryz.sizeOf90 RN.v zba 137 #[] xfa blk off cap d w eg (vma blk off d.size w) ⟨fun _=>rfl,RN.v1,hH,hblk⟩ (d.size+1) 0 d.size (Lib.bitLen d.size) d w (by omega) rfl (SWK.start hH) (Nat.zero_le _) (Nat.le_refl _) hsz hlim (Or.inl rfl)
 change Calls Tryz.prog 154 _ _ _ at hp
 have hl:Calls Tryz.prog 134 #[.int .u64 (d.size:Int)] w fun e w'=>e=.returned (.int .i64 (Lib.bitLen d.size:Nat))/\w'=w:=by
  have h:=Any.bits_Len (SlLaysF0.n15.bits Tryz.bits134) (d.size:Int) w (by omega) (by omega)
  rwa [Int.toNat_natCast] at h
 have wr:IntKind.u64.wrap (d.size:Int)=d.size:=by simp[IntKind.wrap,IntKind.bits,IntKind.signed];omega
 clear hH
 go_enter Tryz.func136,Tryz.ntmps136
 go_wp2_with (first | (go_at_call 134;refine hl.mono ?_;rintro e w' ⟨rfl,rfl⟩) | (go_at_call 154;refine hp.mono ?_;rintro e w' ⟨rfl,n,os,rfl⟩))
 go_end0
 exact⟨rfl,n,os,rfl⟩
theorem yca(w:World):Calls Tryz.prog 136 #[.slice none 0 0,.func (.func 137) #[] #[]] w fun e w'=>e=.returned (.tuple #[])/\Go.RowKit.Below w.heap.size w w':=by
 have e14:=Tryz.call154;have e15:=Tryz.call134;have hp:=fun lim W=>AnyF.pdqsortCmpFunc_none Tryz.pdq154 none 0 lim (.func (.func 137) #[] #[]) W
 have hl:∀ W,Calls Tryz.prog 134 #[.int .u64 0] W fun e w'=>e=.returned (.int .i64 (Lib.bitLen 0:Nat))/\w'=W:=fun W=>by
  have h:=Any.bits_Len (SlLaysF0.n15.bits Tryz.bits134) 0 W (by omega) (by omega);exact h
 go_enter Tryz.func136,Tryz.ntmps136
 go_wp2_with (first | (go_at_call 134;refine(hl _).mono ?_;rintro e w' ⟨rfl,rfl⟩) | (go_at_call 154;refine(hp _ _).mono ?_;rintro e w' ⟨rfl,rfl⟩))
 go_end0
 exact⟨rfl,Go.RowKit.Below.refl _ _⟩
theorem wTa : SortLaw Tryz.prog 136 137 2 RN.v Je:=SortLaw.of xfa QG (fun _=>rfl) yca (fun blk off cap d w hH hblk hsz=>wSa blk off cap d w hH hblk hsz)
end Go.Proofs
