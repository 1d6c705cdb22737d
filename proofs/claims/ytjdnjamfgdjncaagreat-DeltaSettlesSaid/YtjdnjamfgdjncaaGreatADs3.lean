/- Side texts. -/
import Derived.Test.YtjdnjamfgdjncaaGreatProg
import Derived.Shelf.SlGeneric
import Derived.Shelf.SlLaysF0
import Derived.Ground.SlsfProg
import Derived.Shelf.SlSortCmp.WholeK
import Derived.Shelf.SlSortCmp.NoneTotal
import Derived.StillTactics
import Derived.RegionTactic
import Derived.Test.YtjdnjamfgdjncaaGreatADs2
set_option linter.unusedVariables false
set_option linter.unusedSimpArgs false
namespace Go.Ep
open Go
def xl(d1:DT):M Bool:=
 M.bind (cond (decide (0 < d1.dev))
  (cond (decide (0 < d1.n))
   (M.pure (decide (d1.n<=281474976710655)))
   (M.pure false))
  (M.pure false)) (fun v2=>
 M.pure v2)
def Zy(v1:Int):M (Int×Int):=
 M.pure (((IntKind.u16.wrap (Int.fdiv v1 (2 ^ 48))),(bAnd .u64 v1 281474976710655)))
def XE(v1:Int):M (DT×Bool):=
 M.bind (M.det (Zy v1)) fun v2=>
 M.bind (M.det (xl (⟨v2.1,v2.2⟩:DT))) fun v4=>
 cond (!v4)
  (M.pure ((⟨0,0⟩:DT),false))
  (M.pure ((⟨v2.1,v2.2⟩:DT),true))
def XF(f1:Int):M Bool:=
 M.bind (cond (decide (1<=f1))
  (M.pure (decide (f1<=5)))
  (M.pure false)) (fun v2=>
 M.pure v2)
def wv(s1:ByteArray):Int->M (M.Step Int (M.Ex Unit Bool)):=fun v20=>
 cond ((decide (v20 < (ByteArray.size s1:Int))))
  (M.bind (M.bind (M.idx (wg s1) v20) fun b23=>
  cond (decide (b23 < 32))
   (M.pure true)
   (M.bind (M.idx (wg s1) v20) fun b26=>
   M.pure (decide (126 < b26)))) (fun v22=>
  cond v22
   (M.pure (.done (.ret false)))
   (M.pure (.next (IntKind.i64.wrap (v20+1))))))
  (M.pure (.done (.brk ())))
def XG(s1:ByteArray):M Bool:=
 cond ((decide (60 < (ByteArray.size s1:Int))))
  (M.pure false)
  (M.bind (M.loop (wv s1) 0) (M.exk (fun _=>
  M.pure true)))
def xz(x1:Int):M Bool:=
 M.pure (!decide (x1=x1))
def xF(x1:Int)(y2:Int):M Int:=
 M.bind (M.det (xz x1)) fun v3=>
 M.bind (M.det (xz y2)) fun v5=>
 cond v3
  (cond v5
   (M.pure 0)
   (M.pure (-1)))
  (cond v5
   (M.pure 1)
   (cond (decide (x1 < y2))
    (M.pure (-1))
    (cond (decide (y2 < x1))
     (M.pure 1)
     (M.pure 0))))
def wG(x1:Int):M Bool:=
 M.pure (!decide (x1=x1))
def xd(x1:Int)(y2:Int):M Int:=
 M.bind (M.det (wG x1)) fun v3=>
 M.bind (M.det (wG y2)) fun v5=>
 cond v3
  (cond v5
   (M.pure 0)
   (M.pure (-1)))
  (cond v5
   (M.pure 1)
   (cond (decide (x1 < y2))
    (M.pure (-1))
    (cond (decide (y2 < x1))
     (M.pure 1)
     (M.pure 0))))
def Xt(a1:DT)(b2:DT):M Int:=
 M.bind (M.det (xd a1.dev b2.dev)) fun v3=>
 cond (!decide (v3=0))
  (M.pure v3)
  (M.bind (M.det (xF a1.n b2.n)) fun v6=>
  M.pure v6)
def xH(l1:List DT):Int->M (M.Step Int (M.Ex Unit Bool)):=fun v23=>
 cond ((decide (v23 < (l1.length:Int))))
  (M.bind (cond (decide (0 < v23))
   (M.bind (M.idx l1 (IntKind.i64.wrap (v23 - 1))) fun x27=>
   M.bind (M.idx l1 v23) fun x29=>
   M.bind (M.det (Xt x27 x29)) fun v31=>
   M.pure (decide (0<=v31)))
   (M.pure false)) (fun v25=>
  cond v25
   (M.pure (.done (.ret false)))
   (M.pure (.next (IntKind.i64.wrap (v23+1))))))
  (M.pure (.done (.brk ())))
def XH(l1:List DT):M Bool:=
 M.bind (M.loop (xH l1) 0) (M.exk (fun _=>
 M.pure true))
def ww(e1:EV):Int->M (M.Step Int (M.Ex Unit Bool)):=fun v43=>
 cond ((decide (v43 < (e1.kills.length:Int))))
  (M.bind (M.idx e1.kills v43) fun x45=>
  M.bind (M.bind (M.det (xl x45)) fun v48=>
  cond (!v48)
   (M.pure true)
   (M.pure (((decide (x45.dev=e1.dot.dev)&&decide (x45.n=e1.dot.n)))))) (fun v47=>
  cond v47
   (M.pure (.done (.ret false)))
   (M.pure (.next (IntKind.i64.wrap (v43+1))))))
  (M.pure (.done (.brk ())))
def ua(e1:EV):M Bool:=
 M.bind (M.det (XE e1.cid)) fun v2=>
 M.bind (cond (!v2.2)
  (M.pure true)
  (M.bind (M.det (xl e1.dot)) fun v6=>
  M.pure (!v6))) (fun v4=>
 cond v4
  (M.pure false)
  (M.bind (cond (decide (e1.kind=1))
   (M.bind (M.bind (M.det (XF e1.field)) fun v11=>
   cond (!v11)
    (M.pure true)
    (M.bind (M.det (XG e1.text)) fun v14=>
    M.pure (!v14))) (fun v10=>
   cond v10
    (M.pure (.ret false))
    (M.pure (.brk ()))))
   (cond (decide (e1.kind=2))
    (M.bind (cond (!decide (e1.field=0))
     (M.pure true)
     (M.pure ((!decide (e1.text=(⟨#[]⟩:ByteArray)))))) (fun v18=>
    cond v18
     (M.pure (.ret false))
     (M.pure (.brk ()))))
    (M.pure (.ret false)))) (M.exk (fun _=>
  M.bind (cond ((decide (256 < (e1.kills.length:Int))))
   (M.pure true)
   (M.bind (M.det (XH e1.kills)) fun v23=>
   M.pure (!v23))) (fun v21=>
  cond v21
   (M.pure false)
   (M.bind (M.loop (ww e1) 0) (M.exk (fun _=>
   M.pure true))))))))
def vk(l1:List RN):Int×List RN->M (M.Step (Int×List RN) (List RN)):=fun⟨v23,some24⟩=>
 cond ((decide (v23 < (l1.length:Int))))
  (M.bind (M.bind (M.idx l1 v23) fun x27=>
  M.bind (cond (decide (0 < x27.lo))
   (cond (decide (x27.lo<=x27.hi))
    (M.pure (decide (x27.hi<=281474976710655)))
    (M.pure false))
   (M.pure false)) (fun v29=>
  cond v29
   (M.yc ((some24.length+List.length ([x27]))*16<=140737488355328) <|
   M.pure (some24++[x27]))
   (M.pure some24))) (fun some26=>
  M.pure (.next (((IntKind.i64.wrap (v23+1)),some26)))))
  (M.pure (.done some24))
def vl(some2:List RN)(s34:List RN):Int×List RN->M (M.Step (Int×List RN) (List RN)):=fun⟨v69,out70⟩=>
 cond ((decide (v69 < ((some2.length):Int))))
  (M.bind (M.bind (M.idx s34 v69) fun x73=>
  M.bind (cond ((decide (0<=((IntKind.i64.wrap (((out70.length):Int) - 1))))))
   (M.bind (M.idx out70 ((IntKind.i64.wrap (((out70.length):Int) - 1)))) fun x77=>
   M.pure ((decide (x73.lo<=(IntKind.u64.wrap (x77.hi+1))))))
   (M.pure false)) (fun v75=>
  cond v75
   (M.bind (M.idx out70 ((IntKind.i64.wrap (((out70.length):Int) - 1)))) fun x80=>
   M.bind (M.idx out70 ((IntKind.i64.wrap (((out70.length):Int) - 1)))) fun x82=>
   M.pure ((List.set out70 ((Int.toNat ((IntKind.i64.wrap (((out70.length):Int) - 1))))) (⟨x82.lo,(max x80.hi x73.hi)⟩:RN))))
   (M.yc ((out70.length+List.length ([x73]))*16<=140737488355328) <|
   M.pure (out70++[x73])))) (fun out72=>
  M.pure (.next (((IntKind.i64.wrap (v69+1)),out72)))))
  (M.pure (.done out70))
def xf(l1:List RN):M (List RN):=
 M.bind (M.loop (vk l1) (0,([]:List RN))) (fun some2=>
 M.yc (some2.length < 4611686018427387904)<|M.bind (M.srt jU some2) fun s34=>
 M.bind (M.loop (vl some2 s34) (0,([]:List RN))) (fun out38=>
 M.pure out38))
def ui(x1:RN)(n2:Int):M Int:=
 M.bind (M.det (xF x1.hi n2)) fun v3=>
 M.pure v3
def za(x1:List RN)(target2:Int):Int×Int->M (M.Step (Int×Int) Int):=fun⟨i18,j19⟩=>
 cond (decide (i18 < j19))
  (M.bind (M.idx x1 ((IntKind.i64.wrap ((Int.fdiv ((IntKind.u64.wrap (IntKind.i64.wrap (i18+j19)))) (2 ^ 1)))))) fun x21=>
  M.bind (M.det (ui x21 target2)) fun v23=>
  cond (decide (v23 < 0))
   (M.pure (.next (((IntKind.i64.wrap (((IntKind.i64.wrap ((Int.fdiv ((IntKind.u64.wrap (IntKind.i64.wrap (i18+j19)))) (2 ^ 1)))))+1)),j19))))
   (M.pure (.next ((i18,(IntKind.i64.wrap ((Int.fdiv ((IntKind.u64.wrap (IntKind.i64.wrap (i18+j19)))) (2 ^ 1)))))))))
  (M.pure (.done i18))
def zP(x1:List RN)(target2:Int):M (Int×Bool):=
 M.bind (M.loop (za x1 target2) (0,(x1.length:Int))) (fun i3=>
 M.bind (cond ((decide (i3 < (x1.length:Int))))
  (M.bind (M.idx x1 i3) fun x28=>
  M.bind (M.det (ui x28 target2)) fun v30=>
  M.pure (decide (v30=0)))
  (M.pure false)) (fun v26=>
 M.pure (i3,v26)))
def Vk(l1:List RN)(n2:Int):M Bool:=
 M.bind (M.det (xf l1)) fun v3=>
 M.bind (M.det (zP v3 n2)) fun v5=>
 M.bind (cond ((decide (v5.1 < (v3.length:Int))))
  (M.bind (M.idx v3 v5.1) fun x9=>
  M.pure (decide (x9.lo<=n2)))
  (M.pure false)) (fun v7=>
 M.pure v7)
def zm(p:PT):Option (Int×List RN):=if 0 < p.dev then some (p.dev,p.runs) else none
def uM(c1:List PT):M (List (Int×List RN)):=
 M.yc (AL.growOK 16 (c1.length) (List.filterMap zm c1)) <|
 M.pure ((AL.grow ([]:List (Int×List RN)) (List.filterMap zm c1)))
def Vl(c1:List PT)(dev2:Int):M (List RN):=
 M.bind (M.det (uM c1)) fun v3=>
 M.bind (M.det (xf (AL.getZ v3 dev2 ([]:List RN)))) fun v6=>
 M.pure v6
def uB(c1:List PT)(d2:DT):M Bool:=
 M.bind (cond (decide (0 < d2.dev))
  (M.bind (M.det (Vl c1 d2.dev)) fun v5=>
  M.bind (M.det (Vk v5 d2.n)) fun v7=>
  M.pure v7)
  (M.pure false)) (fun v3=>
 M.pure v3)
def ZI(m1:List (Int×List RN)):List Nat×List PT->M (M.Step (List Nat×List PT) (List PT)):=fun⟨seen28,c29⟩=>
 M.yc (∀ i∈seen28,i < m1.length)<|M.bind (M.nxt (m1.length) seen28) fun o=>match o with
 | none=>
  M.pure (.done c29)
 | some j30=>
  M.bind (M.idx m1 (Int.ofNat j30)) fun kv34=>
  M.bind (M.det (xf kv34.2)) fun v36=>
  cond ((decide (0 < ((v36.length):Int))))
   (M.yc ((c29.length+List.length ([(⟨kv34.1,v36⟩:PT)]))*32<=140737488355328) <|
   M.pure (.next (((seen28++[j30]),(c29++[(⟨kv34.1,v36⟩:PT)])))))
   (M.pure (.next ((seen28++[j30]),c29)))
def wx(m1:List (Int×List RN)):M (List PT):=
 M.bind (M.loop (ZI m1) ([],([]:List PT))) (fun c3=>
 M.yc (c3.length < 4611686018427387904)<|M.bind (M.srt jm c3) fun s41=>
 M.pure s41)
def ZJ(c1:List PT):M (List PT):=
 M.bind (M.det (uM c1)) fun v2=>
 M.bind (M.det (wx v2)) fun v5=>
 M.pure v5
def yd(n1:Int):M (List PT):=
 cond (decide (n1 < 0))
  M.fail
  (M.bind (cond ((decide (0 < ((IntKind.i64.wrap (n1 - (IntKind.i64.wrap (0 - 0))))))))
   (M.yc (0 < ((IntKind.i64.wrap (n1 - (IntKind.i64.wrap (0 - 0)))))/\((IntKind.i64.wrap (n1 - (IntKind.i64.wrap (0 - 0)))))*32<=140737488355328) <|
   M.yc ((0:Int)<=0/\(0:Int)<=0/\0<=(List.length ((List.replicate (Int.toNat ((IntKind.i64.wrap (n1 - (IntKind.i64.wrap (0 - 0)))))) (⟨0,([]:List RN)⟩:PT))):Int)) <|
   M.pure ((List.take (Int.toNat 0) ((List.replicate (Int.toNat ((IntKind.i64.wrap (n1 - (IntKind.i64.wrap (0 - 0)))))) (⟨0,([]:List RN)⟩:PT))))))
   (M.pure ([]))) (fun v3=>
  M.pure v3))
def zh(slices1:List (List PT)):Int×Int->M (M.Step (Int×Int) Int):=fun⟨size13,v14⟩=>
 cond ((decide (v14 < (slices1.length:Int))))
  (M.bind (M.idx slices1 v14) fun x16=>
  cond ((decide (((IntKind.i64.wrap (size13+(x16.length:Int)))) < 0)))
   M.fail
   (M.pure (.next (((IntKind.i64.wrap (size13+(x16.length:Int))),(IntKind.i64.wrap (v14+1)))))))
  (M.pure (.done size13))
def zi(slices1:List (List PT)):Int×List PT->M (M.Step (Int×List PT) (List PT)):=fun⟨v32,v33⟩=>
 cond ((decide (v32 < (slices1.length:Int))))
  (M.bind (M.idx slices1 v32) fun x35=>
  M.yc ((v33.length+x35.length)*32<=140737488355328) <|
  M.pure (.next (((IntKind.i64.wrap (v32+1)),(v33++x35)))))
  (M.pure (.done v33))
def yv(slices1:List (List PT)):M (List PT):=
 M.bind (M.loop (zh slices1) (0,0)) (fun size2=>
 M.bind (M.det (yd size2)) fun v19=>
 M.bind (M.loop (zi slices1) (0,v19)) (fun v21=>
 M.pure v21))
def WK(a1:List PT)(b2:List PT):M (List PT):=
 M.bind (M.det (yv ([a1,b2]))) fun v3=>
 M.bind (M.det (ZJ v3)) fun v5=>
 M.pure v5
def Zd(d:DT):Bool:=decide (0 < d.dev)&&(decide (0 < d.n)&&decide (d.n<=281474976710655))
theorem VU(d:DT):xl d=M.pure (Zd d):=by
 unfold xl Zd;rw[M.zg,M.zg];rfl
def vA(d:DT):Option (Int×List RN):=if Zd d then some (d.dev,[⟨d.n,d.n⟩]) else none
def zsa(l1:List DT):M (List PT):=
 M.yc (AL.growOK 16 (l1.length) (List.filterMap vA l1)) <|
 M.bind (M.det (wx ((AL.grow ([]:List (Int×List RN)) (List.filterMap vA l1))))) fun v17=>
 M.pure v17
def UQ(c1:List PT)(l2:List DT):M (List PT):=
 M.bind (M.det (zsa l2)) fun v3=>
 M.bind (M.det (WK c1 v3)) fun v5=>
 M.pure v5
def yO(s1:List DT):M (List DT):=
 M.bind (M.isNil s1) fun b2=>
 cond b2
  (M.pure ([]:List DT))
  (M.yc ((List.length ([]:List DT)+s1.length)*16<=140737488355328) <|
  M.pure (([]:List DT)++s1))
def zn(row1:List DT)(k148:Int):Int×Int×List DT->M (M.Step (Int×Int×List DT) (Int×List DT)):=fun⟨k197,k2_198,v199⟩=>
 cond ((decide (k2_198 < ((((row1.length - Int.toNat k148):Nat):Int)))))
  (M.bind (M.yc ((0:Int)<=k2_198/\k2_198 < (((row1.length - Int.toNat k148):Nat):Int))<|M.bind (M.idx v199 ((((Int.toNat k148)+Int.toNat k2_198):Nat):Int)) fun x203=>
  M.yc ((0:Int)<=(IntKind.i64.wrap (k2_198 - 1))/\(IntKind.i64.wrap (k2_198 - 1)) < (((row1.length - Int.toNat k148):Nat):Int))<|M.bind (M.idx v199 ((((Int.toNat k148)+Int.toNat (IntKind.i64.wrap (k2_198 - 1))):Nat):Int)) fun x207=>
  cond ((!(decide (x203.dev=x207.dev)&&decide (x203.n=x207.n))))
   (M.yc ((0:Int)<=k2_198/\k2_198 < (((row1.length - Int.toNat k148):Nat):Int))<|M.bind (M.idx v199 ((((Int.toNat k148)+Int.toNat k2_198):Nat):Int)) fun x212=>
   M.bind (M.idx v199 k197) fun x216=>
   M.pure (((IntKind.i64.wrap (k197+1)),(List.set v199 (Int.toNat k197) x212))))
   (M.pure (k197,v199))) (fun⟨k201,v202⟩=>
  M.pure (.next ((k201,(IntKind.i64.wrap (k2_198+1)),v202)))))
  (M.pure (.done (k197,v199)))
def zo(row1:List DT):Int->M (M.Step Int (M.Ex Unit (List DT))):=fun k148=>
 cond ((decide (k148 < ((row1.length):Int))))
  (M.bind (M.bind (M.idx row1 k148) fun x150=>
  M.bind (M.idx row1 (IntKind.i64.wrap (k148 - 1))) fun x152=>
  cond (((decide (x150.dev=x152.dev)&&decide (x150.n=x152.n))))
   (M.yc ((0:Int)<=k148/\k148<=(row1.length:Int)) <|
   M.bind (M.loop (zn row1 k148) (k148,1,row1)) (fun⟨k156,v157⟩=>
   M.yc ((0:Int)<=k156/\k156<=(v157.length:Int)) <|
   M.yc ((Int.toNat k156)+(v157.length - Int.toNat k156)<=v157.length) <|
   M.yc ((0:Int)<=0/\(0:Int)<=k156/\k156<=(List.length ((List.take (Int.toNat k156) v157++List.replicate (v157.length - Int.toNat k156) (⟨0,0⟩:DT)++List.drop ((Int.toNat k156)+(v157.length - Int.toNat k156)) v157)):Int)) <|
   M.pure (.ret ((.done ((.ret (((List.take (Int.toNat k156) ((List.take (Int.toNat k156) v157++List.replicate (v157.length - Int.toNat k156) (⟨0,0⟩:DT)++List.drop ((Int.toNat k156)+(v157.length - Int.toNat k156)) v157))))))))))))
   (M.pure (.brk ()))) (M.exk (fun _=>
  M.pure (.next (IntKind.i64.wrap (k148+1))))))
  (M.pure (.done (.brk ())))
def zw(row1:List DT):M (List DT):=
 cond ((decide (((row1.length):Int) < 2)))
  (M.pure row1)
  (M.bind (M.loop (zo row1) 1) (M.exk (fun _=>
  M.pure row1)))
def WL(l1:List DT):M (List DT):=
 M.bind (M.det (yO l1)) fun v2=>
 M.yc (v2.length < 4611686018427387904)<|M.bind (M.srt zT v2) fun s4=>
 M.bind (M.det (zw s4)) fun y8=>
 M.pure y8
def uN(l1:List EV):Int×List DT->M (M.Step (Int×List DT) (List DT)):=fun⟨v15,out16⟩=>
 cond ((decide (v15 < (l1.length:Int))))
  (M.bind (M.idx l1 v15) fun x18=>
  M.yc ((out16.length+List.length ([x18.dot]))*16<=140737488355328) <|
  M.yc ((List.length (out16++[x18.dot])+x18.kills.length)*16<=140737488355328) <|
  M.pure (.next (((IntKind.i64.wrap (v15+1)),((out16++[x18.dot])++x18.kills)))))
  (M.pure (.done out16))
def vU(l1:List EV):M (List DT):=
 M.bind (M.loop (uN l1) (0,([]:List DT))) (fun out2=>
 M.bind (M.det (WL out2)) fun v22=>
 M.pure v22)
def xC(e1:EV):M EV:=
 M.bind (M.det (yO e1.kills)) fun v2=>
 M.pure (⟨e1.dot,e1.kind,e1.cid,e1.field,e1.text,v2⟩:EV)
def ZK :List RN×List RN×List RN->M (M.Step (List RN×List RN×List RN) (List RN)):=fun⟨a53,b54,out55⟩=>
 M.bind (cond ((decide (0 < (a53.length:Int))))
  (M.pure ((decide (0 < (b54.length:Int)))))
  (M.pure false)) (fun v56=>
 cond v56
  (M.bind (M.idx a53 0) fun x59=>
  M.bind (M.idx b54 0) fun x61=>
  M.bind (M.idx a53 0) fun x63=>
  M.bind (M.idx b54 0) fun x65=>
  M.bind (cond ((decide ((max x59.lo x61.lo)<=(min x63.hi x65.hi))))
   (M.yc ((out55.length+List.length ([(⟨(max x59.lo x61.lo),(min x63.hi x65.hi)⟩:RN)]))*16<=140737488355328) <|
   M.pure ((out55++[(⟨(max x59.lo x61.lo),(min x63.hi x65.hi)⟩:RN)])))
   (M.pure out55)) (fun out67=>
  M.bind (M.idx a53 0) fun x70=>
  M.bind (M.idx b54 0) fun x72=>
  cond (decide (x70.hi < x72.hi))
   (M.yc ((0:Int)<=1/\(1:Int)<=(a53.length:Int)/\(a53.length:Int)<=(a53.length:Int)) <|
   M.pure (.next (((List.drop (Int.toNat 1) (List.take (Int.toNat (a53.length:Int)) a53)),b54,out67))))
   (M.yc ((0:Int)<=1/\(1:Int)<=(b54.length:Int)/\(b54.length:Int)<=(b54.length:Int)) <|
   M.pure (.next ((a53,(List.drop (Int.toNat 1) (List.take (Int.toNat (b54.length:Int)) b54)),out67))))))
  (M.pure (.done out55)))
def Ze(a1:List RN)(b2:List RN):M (List RN):=
 M.bind (M.det (xf a1)) fun v3=>
 M.bind (M.det (xf b2)) fun v5=>
 M.bind (M.loop ZK (v3,v5,([]:List RN))) (fun out7=>
 M.pure out7)
def ZL(v2:List RN):Int×Int×List RN->M (M.Step (Int×Int×List RN) (Int×List RN)):=fun⟨at17,v18,out19⟩=>
 cond ((decide (v18 < ((v2.length):Int))))
  (M.bind (M.idx v2 v18) fun x21=>
  M.yc ((out19.length+List.length ([(⟨at17,(IntKind.u64.wrap (x21.lo - 1))⟩:RN)]))*16<=140737488355328) <|
  M.pure (.next (((IntKind.u64.wrap (x21.hi+1)),(IntKind.i64.wrap (v18+1)),(out19++[(⟨at17,(IntKind.u64.wrap (x21.lo - 1))⟩:RN)])))))
  (M.pure (.done (at17,out19)))
def WM(l1:List RN):M (List RN):=
 M.bind (M.det (xf l1)) fun v2=>
 M.bind (M.loop (ZL v2) (1,0,([]:List RN))) (fun⟨at4,out5⟩=>
 M.yc ((out5.length+List.length ([(⟨at4,281474976710655⟩:RN)]))*16<=140737488355328) <|
 M.pure (out5++[(⟨at4,281474976710655⟩:RN)]))
def Zf(a1:List RN)(b2:List RN):M (List RN):=
 M.bind (M.det (WM b2)) fun v3=>
 M.bind (M.det (Ze a1 v3)) fun v5=>
 M.pure v5
def vS(v6:List (Int×List RN)):List Nat×(List (Int×List RN))->M (M.Step (List Nat×(List (Int×List RN))) (List (Int×List RN))):=fun⟨seen32,v33⟩=>
 M.yc (∀ i∈seen32,i < v33.length)<|M.bind (M.nxt (v33.length) seen32) fun o=>match o with
 | none=>
  M.pure (.done v33)
 | some j34=>
  M.bind (M.idx v33 (Int.ofNat j34)) fun kv38=>
  M.bind (M.det (Zf kv38.2 (AL.getZ v6 kv38.1 ([]:List RN)))) fun v40=>
  M.yc (AL.has v33 kv38.1=true) <|
  M.pure (.next ((seen32++[j34]),(AL.set v33 kv38.1 v40)))
def wW(a1:List PT)(b2:List PT):M (List PT):=
 M.bind (M.det (uM a1)) fun v3=>
 M.bind (M.det (uM b2)) fun v6=>
 M.bind (M.loop (vS v6) ([],v3)) (fun v9=>
 M.bind (M.det (wx v9)) fun v44=>
 M.pure v44)
def WN(a1:List PT)(b2:List PT):M (List PT):=
 M.bind (M.det (wW a1 b2)) fun v3=>
 M.pure v3
def Zg(a1:List PT)(b2:List PT):M Bool:=
 M.bind (M.det (WN a1 b2)) fun v3=>
 M.pure ((decide (((v3.length):Int)=0)))
def ZC(s1_1:List RN)(s2_2:List RN):Int->M (M.Step Int (M.Ex Unit Bool)):=fun v17=>
 cond ((decide (v17 < (s1_1.length:Int))))
  (M.bind (M.idx s1_1 v17) fun x19=>
  M.bind (M.idx s2_2 v17) fun x21=>
  cond ((!(decide (x19.lo=x21.lo)&&decide (x19.hi=x21.hi))))
   (M.pure (.done (.ret false)))
   (M.pure (.next (IntKind.i64.wrap (v17+1)))))
  (M.pure (.done (.brk ())))
def yl(s1_1:List RN)(s2_2:List RN):M Bool:=
 cond ((!decide ((s1_1.length:Int)=(s2_2.length:Int))))
  (M.pure false)
  (M.bind (M.loop (ZC s1_1 s2_2) 0) (M.exk (fun _=>
  M.pure true)))
def UR(x1:PT)(y2:PT):M Bool:=
 M.bind (cond (decide (x1.dev=y2.dev))
  (M.bind (M.det (yl x1.runs y2.runs)) fun v5=>
  M.pure v5)
  (M.pure false)) (fun v3=>
 M.pure v3)
def zX(s1_1:List PT)(s2_2:List PT):Int->M (M.Step Int (M.Ex Unit Bool)):=fun v21=>
 cond ((decide (v21 < (s1_1.length:Int))))
  (M.bind (M.idx s1_1 v21) fun x23=>
  M.bind (M.idx s2_2 v21) fun x25=>
  M.bind (M.det (UR x23 x25)) fun v27=>
  cond (!v27)
   (M.pure (.done (.ret false)))
   (M.pure (.next (IntKind.i64.wrap (v21+1)))))
  (M.pure (.done (.brk ())))
def zc(s1_1:List PT)(s2_2:List PT):M Bool:=
 cond ((!decide ((s1_1.length:Int)=(s2_2.length:Int))))
  (M.pure false)
  (M.bind (M.loop (zX s1_1 s2_2) 0) (M.exk (fun _=>
  M.pure true)))
def QC(a1:List PT)(b2:List PT):M Bool:=
 M.bind (M.det (zc a1 b2)) fun v3=>
 M.pure v3
def WO(c1:List PT):M Bool:=
 M.bind (M.det (ZJ c1)) fun v2=>
 M.bind (M.det (QC c1 v2)) fun v4=>
 M.pure v4
def yT(s1:List DT)(v2:DT):Int->M (M.Step Int (M.Ex Unit Int)):=fun v12=>
 cond ((decide (v12 < (s1.length:Int))))
  (M.bind (M.idx s1 v12) fun x14=>
  cond (((decide (v2.dev=x14.dev)&&decide (v2.n=x14.n))))
   (M.pure (.done (.ret v12)))
   (M.pure (.next (IntKind.i64.wrap (v12+1)))))
  (M.pure (.done (.brk ())))
def xX(s1:List DT)(v2:DT):M Int:=
 M.bind (M.loop (yT s1 v2) 0) (M.exk (fun _=>
 M.pure (-1)))
def yz(s1:List DT)(v2:DT):M Bool:=
 M.bind (M.det (xX s1 v2)) fun v3=>
 M.pure (decide (0<=v3))
def JT(l1:List DT)(d2:DT):M Bool:=
 M.bind (M.det (yz l1 d2)) fun v3=>
 M.pure v3
def Xu(e1:EV)(d2:DT):M Bool:=
 M.bind (M.det (JT e1.kills d2)) fun v3=>
 M.pure v3
def uO(l1:List EV)(d2:DT):Int->M (M.Step Int (M.Ex Unit Bool)):=fun v16=>
 cond ((decide (v16 < (l1.length:Int))))
  (M.bind (M.idx l1 v16) fun x18=>
  M.bind (M.det (Xu x18 d2)) fun v20=>
  cond v20
   (M.pure (.done (.ret true)))
   (M.pure (.next (IntKind.i64.wrap (v16+1)))))
  (M.pure (.done (.brk ())))
def XI(l1:List EV)(d2:DT):M Bool:=
 M.bind (M.loop (uO l1 d2) 0) (M.exk (fun _=>
 M.pure false))
def uP(l1:List DT)(c2:List PT)(has3:Bool):Int×List DT->M (M.Step (Int×List DT) (List DT)):=fun⟨v23,out24⟩=>
 cond ((decide (v23 < (l1.length:Int))))
  (M.bind (M.bind (M.idx l1 v23) fun x27=>
  M.bind (M.det (uB c2 x27)) fun v29=>
  cond (v29==has3)
   (M.yc ((out24.length+List.length ([x27]))*16<=140737488355328) <|
   M.pure (out24++[x27]))
   (M.pure out24)) (fun out26=>
  M.pure (.next (((IntKind.i64.wrap (v23+1)),out26)))))
  (M.pure (.done out24))
def Wu(l1:List DT)(c2:List PT)(has3:Bool):M (List DT):=
 M.bind (M.loop (uP l1 c2 has3) (0,([]:List DT))) (fun out4=>
 M.bind (M.det (WL out4)) fun v33=>
 M.pure v33)
def XJ(l1:List DT)(c2:List PT):M (List DT):=
 M.bind (M.det (Wu l1 c2 false)) fun v3=>
 M.pure v3
def vB(d1:DL):Int->M (M.Step Int (M.Ex Unit Bool)):=fun v58=>
 cond ((decide (v58 < (d1.events.length:Int))))
  (M.bind (M.idx d1.events v58) fun x60=>
  M.bind (M.bind (M.det (ua x60)) fun v63=>
  cond (!v63)
   (M.pure true)
   (M.bind (M.det (uB d1.from_ x60.dot)) fun v66=>
   M.pure v66)) (fun v62=>
  cond v62
   (M.pure (.done (.ret false)))
   (M.bind (cond (decide (0 < v58))
    (M.bind (M.idx d1.events (IntKind.i64.wrap (v58 - 1))) fun x71=>
    M.bind (M.det (Xt x71.dot x60.dot)) fun v73=>
    M.pure (decide (0<=v73)))
    (M.pure false)) (fun v69=>
   cond v69
    (M.pure (.done (.ret false)))
    (M.bind (cond (decide (x60.kind=1))
     (M.bind (M.det (XI d1.events x60.dot)) fun v78=>
     M.pure v78)
     (M.pure false)) (fun v76=>
    cond v76
     (M.pure (.done (.ret false)))
     (M.pure (.next (IntKind.i64.wrap (v58+1))))))))))
  (M.pure (.done (.brk ())))
def XK(d1:DL):M Bool:=
 M.bind (M.bind (M.det (WO d1.from_)) fun v3=>
 cond (!v3)
  (M.pure true)
  (M.bind (M.det (WO d1.to_)) fun v6=>
  cond (!v6)
   (M.pure true)
   (M.bind (M.det (Zg d1.from_ d1.to_)) fun v9=>
   cond (!v9)
    (M.pure true)
    (M.pure ((decide (4096 < (d1.events.length:Int)))))))) (fun v2=>
 cond v2
  (M.pure false)
  (M.bind (M.loop (vB d1) 0) (M.exk (fun _=>
  M.bind (M.det (vU d1.events)) fun v81=>
  M.bind (M.det (XJ v81 d1.to_)) fun v83=>
  M.pure ((decide ((v83.length:Int)=0)))))))
def vn(v6:List (Int×List RN)):List Nat×(List (Int×List RN))->M (M.Step (List Nat×(List (Int×List RN))) (List (Int×List RN))):=fun⟨seen32,v33⟩=>
 M.yc (∀ i∈seen32,i < v33.length)<|M.bind (M.nxt (v33.length) seen32) fun o=>match o with
 | none=>
  M.pure (.done v33)
 | some j34=>
  M.bind (M.idx v33 (Int.ofNat j34)) fun kv38=>
  M.bind (M.det (Ze kv38.2 (AL.getZ v6 kv38.1 ([]:List RN)))) fun v40=>
  M.yc (AL.has v33 kv38.1=true) <|
  M.pure (.next ((seen32++[j34]),(AL.set v33 kv38.1 v40)))
def vC(a1:List PT)(b2:List PT):M (List PT):=
 M.bind (M.det (uM a1)) fun v3=>
 M.bind (M.det (uM b2)) fun v6=>
 M.bind (M.loop (vn v6) ([],v3)) (fun v9=>
 M.bind (M.det (wx v9)) fun v44=>
 M.pure v44)
def Vm(a1:List PT)(b2:List PT):M (List PT):=
 M.bind (M.det (vC a1 b2)) fun v3=>
 M.pure v3
def WP(a1:List PT)(b2:List PT):M Bool:=
 M.bind (M.det (ZJ a1)) fun v3=>
 M.bind (M.det (ZJ b2)) fun v5=>
 M.bind (M.det (QC v3 v5)) fun v7=>
 M.pure v7
def ZD(s1_1:List DT)(s2_2:List DT):Int->M (M.Step Int (M.Ex Unit Bool)):=fun v17=>
 cond ((decide (v17 < (s1_1.length:Int))))
  (M.bind (M.idx s1_1 v17) fun x19=>
  M.bind (M.idx s2_2 v17) fun x21=>
  cond ((!(decide (x19.dev=x21.dev)&&decide (x19.n=x21.n))))
   (M.pure (.done (.ret false)))
   (M.pure (.next (IntKind.i64.wrap (v17+1)))))
  (M.pure (.done (.brk ())))
def ym(s1_1:List DT)(s2_2:List DT):M Bool:=
 cond ((!decide ((s1_1.length:Int)=(s2_2.length:Int))))
  (M.pure false)
  (M.bind (M.loop (ZD s1_1 s2_2) 0) (M.exk (fun _=>
  M.pure true)))
def Vn(a1:List DT)(b2:List DT):M Bool:=
 M.bind (M.det (ym a1 b2)) fun v3=>
 M.pure v3
def XL(a1:EV)(b2:EV):M Bool:=
 M.bind (cond (((decide (a1.dot.dev=b2.dot.dev)&&decide (a1.dot.n=b2.dot.n))))
  (cond (decide (a1.kind=b2.kind))
   (cond (decide (a1.cid=b2.cid))
    (cond (decide (a1.field=b2.field))
     (cond (decide (a1.text=b2.text))
      (M.bind (M.det (Vn a1.kills b2.kills)) fun v9=>
      M.pure v9)
      (M.pure false))
     (M.pure false))
    (M.pure false))
   (M.pure false))
  (M.pure false)) (fun v3=>
 M.pure v3)
def zJ(s1_1:List EV)(s2_2:List EV):Int->M (M.Step Int (M.Ex Unit Bool)):=fun v21=>
 cond ((decide (v21 < (s1_1.length:Int))))
  (M.bind (M.idx s1_1 v21) fun x23=>
  M.bind (M.idx s2_2 v21) fun x25=>
  M.bind (M.det (XL x23 x25)) fun v27=>
  cond (!v27)
   (M.pure (.done (.ret false)))
   (M.pure (.next (IntKind.i64.wrap (v21+1)))))
  (M.pure (.done (.brk ())))
def zY(s1_1:List EV)(s2_2:List EV):M Bool:=
 cond ((!decide ((s1_1.length:Int)=(s2_2.length:Int))))
  (M.pure false)
  (M.bind (M.loop (zJ s1_1 s2_2) 0) (M.exk (fun _=>
  M.pure true)))
def Yd(a1:List EV)(b2:List EV):M Bool:=
 M.bind (M.det (zY a1 b2)) fun v3=>
 M.pure v3
def wh :M (List PT×Bool×(List (DT×EV))×Bool×(List (DT×EV))):=
 M.pure ((([]:List PT),true,([]:List (DT×EV)),true,([]:List (DT×EV))))
def Zh(e1:EV)(nl2:Bool)(m3:List (DT×EV)):M (Bool×(List (DT×EV))):=
 M.bind (cond nl2
  (M.pure ([]:List (DT×EV)))
  (M.pure m3)) (fun v4=>
 M.bind (M.det (xC e1)) fun v9=>
 M.pure (false,(AL.set v4 e1.dot v9)))
def xI(e1:EV):Int×(List (DT×EV))->M (M.Step (Int×(List (DT×EV))) (List (DT×EV))):=fun⟨v26,v27⟩=>
 cond ((decide (v26 < (e1.kills.length:Int))))
  (M.bind (M.idx e1.kills v26) fun x29=>
  M.pure (.next (((IntKind.i64.wrap (v26+1)),(AL.del v27 x29)))))
  (M.pure (.done v27))
def zl(e1:EV)(ctx_2:List PT)(nl3:Bool)(m4:List (DT×EV))(nl5:Bool)(m6:List (DT×EV)):M (Int×List PT×Bool×(List (DT×EV))×Bool×(List (DT×EV))):=
 M.bind (M.det (ua e1)) fun v7=>
 cond (!v7)
  (M.pure (1,ctx_2,nl3,m4,nl5,m6))
  (M.bind (M.det (uB ctx_2 e1.dot)) fun v10=>
  cond v10
   (M.pure (7,ctx_2,nl3,m4,nl5,m6))
   (M.bind (M.det (vU ([e1]))) fun v13=>
   M.bind (M.det (UQ ctx_2 v13)) fun v15=>
   M.bind (M.loop (xI e1) (0,m4)) (fun v17=>
   M.bind (cond (decide (e1.kind=1))
    (M.bind (M.det (Zh e1 nl3 v17)) fun y36=>
    M.pure (nl5,m6,y36.1,y36.2))
    (M.bind (M.det (Zh e1 nl5 m6)) fun y38=>
    M.pure (y38.1,y38.2,nl3,v17))) (fun⟨nl31,v32,nl33,v34⟩=>
   M.pure (0,v15,nl33,v34,nl31,v32)))))
def zI(ctx_1:List PT)(nl2:Bool)(m3:List (DT×EV))(nl4:Bool)(m5:List (DT×EV)):M (List PT):=
 M.bind (M.det (ZJ ctx_1)) fun v6=>
 M.pure v6
def Ye(m2:List (DT×EV)):List Nat×List EV->M (M.Step (List Nat×List EV) (List EV)):=fun⟨seen32,out33⟩=>
 M.yc (∀ i∈seen32,i < m2.length)<|M.bind (M.nxt (m2.length) seen32) fun o=>match o with
 | none=>
  M.pure (.done out33)
 | some j34=>
  M.bind (M.idx m2 (Int.ofNat j34)) fun kv38=>
  M.bind (M.det (xC kv38.2)) fun v40=>
  M.yc ((out33.length+List.length ([v40]))*80<=140737488355328) <|
  M.pure (.next ((seen32++[j34]),(out33++[v40])))
def Yf(m4:List (DT×EV)):List Nat×List EV->M (M.Step (List Nat×List EV) (List EV)):=fun⟨seen70,out71⟩=>
 M.yc (∀ i∈seen70,i < m4.length)<|M.bind (M.nxt (m4.length) seen70) fun o=>match o with
 | none=>
  M.pure (.done out71)
 | some j72=>
  M.bind (M.idx m4 (Int.ofNat j72)) fun kv76=>
  M.bind (M.det (xC kv76.2)) fun v78=>
  M.yc ((out71.length+List.length ([v78]))*80<=140737488355328) <|
  M.pure (.next ((seen70++[j72]),(out71++[v78])))
def ZM(nl1:Bool)(m2:List (DT×EV))(nl3:Bool)(m4:List (DT×EV)):M (List EV):=
 M.bind (M.bind (M.loop (Ye m2) ([],([]:List EV))) (fun out8=>
 M.bind (M.loop (Yf m4) ([],out8)) (fun out46=>
 M.pure out46))) (fun out5=>
 M.yc (out5.length < 4611686018427387904)<|M.bind (M.srt Zx out5) fun s82=>
 M.pure s82)
def yP(ctx_1:List PT)(nl2:Bool)(m3:List (DT×EV))(nl4:Bool)(m5:List (DT×EV)):M (List EV):=
 M.bind (M.det (ZM nl2 m3 nl4 m5)) fun y6=>
 M.pure y6
def xR(e1:EV)(cv2:List PT):M Bool:=
 M.bind (M.det (uB cv2 e1.dot)) fun v3=>
 M.pure v3
def zU(s1:List EV)(cv2:List PT):Int->M (M.Step Int (M.Ex Unit Int)):=fun v16=>
 cond ((decide (v16 < (s1.length:Int))))
  (M.bind (M.idx s1 v16) fun x18=>
  M.bind (M.det (xR x18 cv2)) fun v20=>
  cond v20
   (M.pure (.done (.ret v16)))
   (M.pure (.next (IntKind.i64.wrap (v16+1)))))
  (M.pure (.done (.brk ())))
def zZ(s1:List EV)(cv2:List PT):M Int:=
 M.bind (M.loop (zU s1 cv2) 0) (M.exk (fun _=>
 M.pure (-1)))
def zS(cv1:List PT):Int×Int×List EV->M (M.Step (Int×Int×List EV) (Int×List EV)):=fun⟨i31,j32,v33⟩=>
 cond ((decide (j32 < ((v33.length):Int))))
  (M.bind (M.bind (M.idx v33 j32) fun x37=>
  M.bind (M.det (xR x37 cv1)) fun v39=>
  cond (!v39)
   (M.bind (M.idx v33 i31) fun x42=>
   M.pure (((IntKind.i64.wrap (i31+1)),(List.set v33 (Int.toNat i31) x37))))
   (M.pure (i31,v33))) (fun⟨i35,v36⟩=>
  M.pure (.next ((i35,(IntKind.i64.wrap (j32+1)),v36)))))
  (M.pure (.done (i31,v33)))
def zV(cv1:List PT)(row2:List EV):M (List EV):=
 M.bind (M.det (zZ row2 cv1)) fun v3=>
 cond ((decide (v3=(-1))))
  (M.pure row2)
  (M.bind (M.loop (zS cv1) ((v3,(IntKind.i64.wrap (v3+1)),row2))) (fun⟨i6,v7⟩=>
  M.yc ((0:Int)<=i6/\i6<=(v7.length:Int)) <|
  M.yc ((Int.toNat i6)+(v7.length - Int.toNat i6)<=v7.length) <|
  M.yc ((0:Int)<=0/\(0:Int)<=i6/\i6<=(List.length ((List.take (Int.toNat i6) v7++List.replicate (v7.length - Int.toNat i6) (⟨(⟨0,0⟩:DT),0,0,0,(⟨#[]⟩:ByteArray),([]:List DT)⟩:EV)++List.drop ((Int.toNat i6)+(v7.length - Int.toNat i6)) v7)):Int)) <|
  M.pure ((List.take (Int.toNat i6) ((List.take (Int.toNat i6) v7++List.replicate (v7.length - Int.toNat i6) (⟨(⟨0,0⟩:DT),0,0,0,(⟨#[]⟩:ByteArray),([]:List DT)⟩:EV)++List.drop ((Int.toNat i6)+(v7.length - Int.toNat i6)) v7))))))
def zQ(from1:List PT)(ctx_2:List PT)(nl3:Bool)(m4:List (DT×EV))(nl5:Bool)(m6:List (DT×EV)):M DL:=
 M.bind (M.det (zI ctx_2 nl3 m4 nl5 m6)) fun y7=>
 M.bind (M.det (Vm from1 y7)) fun v9=>
 M.bind (M.det (yP ctx_2 nl3 m4 nl5 m6)) fun y11=>
 M.bind (M.det (zV from1 y11)) fun y13=>
 M.pure (⟨v9,y7,y13⟩:DL)
def vD(c1:List PT)(ctx_2:List PT)(nl3:Bool)(m4:List (DT×EV))(nl5:Bool)(m6:List (DT×EV)):M (List PT):=
 M.bind (M.det (WK ctx_2 c1)) fun v7=>
 M.pure v7
def xY(d1:DL):Int×List PT×Bool×(List (DT×EV))×Bool×(List (DT×EV))->M (M.Step (Int×List PT×Bool×(List (DT×EV))×Bool×(List (DT×EV))) (List PT×Bool×(List (DT×EV))×Bool×(List (DT×EV)))):=fun⟨v36,v37,nl38,v39,nl40,v41⟩=>
 cond ((decide (v36 < (d1.events.length:Int))))
  (M.bind (M.idx d1.events v36) fun x43=>
  M.bind (M.det (zl x43 v37 nl40 v41 nl38 v39)) fun y45=>
  M.pure (.next (((IntKind.i64.wrap (v36+1)),y45.2.1,y45.2.2.2.2.1,y45.2.2.2.2.2,y45.2.2.1,y45.2.2.2.1))))
  (M.pure (.done (v37,nl38,v39,nl40,v41)))
def zL(d1:DL)(ctx_2:List PT)(nl3:Bool)(m4:List (DT×EV))(nl5:Bool)(m6:List (DT×EV)):M (Int×List PT×Bool×(List (DT×EV))×Bool×(List (DT×EV))):=
 M.bind (M.det (XK d1)) fun v7=>
 cond (!v7)
  (M.pure (1,ctx_2,nl3,m4,nl5,m6))
  (M.bind (M.det (zI ctx_2 nl3 m4 nl5 m6)) fun y10=>
  M.bind (M.det (Zg d1.from_ y10)) fun v12=>
  cond (!v12)
   (M.pure (12,ctx_2,nl3,m4,nl5,m6))
   (M.bind (M.loop (xY d1) (0,ctx_2,nl5,m6,nl3,m4)) (fun⟨v15,nl16,v17,nl18,v19⟩=>
   M.bind (M.det (vD d1.to_ v15 nl18 v19 nl16 v17)) fun y47=>
   M.pure (0,y47,nl18,v19,nl16,v17))))
def Yg(m2:List (DT×EV)):List Nat×List EV->M (M.Step (List Nat×List EV) (List EV)):=fun⟨seen30,out31⟩=>
 M.yc (∀ i∈seen30,i < m2.length)<|M.bind (M.nxt (m2.length) seen30) fun o=>match o with
 | none=>
  M.pure (.done out31)
 | some j32=>
  M.bind (M.idx m2 (Int.ofNat j32)) fun kv36=>
  M.bind (M.det (xC kv36.2)) fun v38=>
  M.yc ((out31.length+List.length ([v38]))*80<=140737488355328) <|
  M.pure (.next ((seen30++[j32]),(out31++[v38])))
def vo(nl1:Bool)(m2:List (DT×EV)):M (List EV):=
 M.bind (M.bind (M.loop (Yg m2) ([],([]:List EV))) (fun out6=>
 M.pure out6)) (fun out3=>
 M.yc (out3.length < 4611686018427387904)<|M.bind (M.srt Zx out3) fun s42=>
 M.pure s42)
def zp(ctx_1:List PT)(nl2:Bool)(m3:List (DT×EV))(nl4:Bool)(m5:List (DT×EV)):M (List EV):=
 M.bind (M.det (vo nl2 m3)) fun y6=>
 M.pure y6
def vV(ctx_1:List PT)(ctx_2:List PT)(nl3:Bool)(m4:List (DT×EV))(nl5:Bool)(m6:List (DT×EV))(nl7:Bool)(m8:List (DT×EV))(nl9:Bool)(m10:List (DT×EV)):M Bool:=
 M.bind (M.bind (M.det (zI ctx_1 nl3 m4 nl5 m6)) fun y12=>
 M.bind (M.det (zI ctx_2 nl7 m8 nl9 m10)) fun y14=>
 M.bind (M.det (WP y12 y14)) fun v16=>
 cond v16
  (M.bind (M.det (yP ctx_1 nl3 m4 nl5 m6)) fun y19=>
  M.bind (M.det (yP ctx_2 nl7 m8 nl9 m10)) fun y21=>
  M.bind (M.det (Yd y19 y21)) fun v23=>
  M.pure v23)
  (M.pure false)) (fun v11=>
 M.pure v11)
def Yh :M Bool:=
 M.bind (M.det (wh)) fun y1=>
 M.bind (M.det (wh)) fun y3=>
 M.bind (M.det (zl (⟨(⟨1,1⟩:DT),1,281474976710657,1,(⟨#[97]⟩:ByteArray),([]:List DT)⟩:EV) y1.1 y1.2.1 y1.2.2.1 y1.2.2.2.1 y1.2.2.2.2)) fun y5=>
 M.bind (M.det (zQ ([]:List PT) y5.2.1 y5.2.2.1 y5.2.2.2.1 y5.2.2.2.2.1 y5.2.2.2.2.2)) fun y7=>
 M.bind (M.det (zL y7 y3.1 y3.2.1 y3.2.2.1 y3.2.2.2.1 y3.2.2.2.2)) fun y9=>
 M.bind (M.det (zL y7 y9.2.1 y9.2.2.1 y9.2.2.2.1 y9.2.2.2.2.1 y9.2.2.2.2.2)) fun y11=>
 M.bind (cond (decide (y5.1=0))
  (cond (decide (y9.1=0))
   (cond (decide (y11.1=0))
    (cond ((decide ((y7.events.length:Int)=1)))
     (M.bind (M.det (zp y11.2.1 y11.2.2.1 y11.2.2.2.1 y11.2.2.2.2.1 y11.2.2.2.2.2)) fun y18=>
     cond ((decide (((y18.length):Int)=1)))
      (M.bind (M.det (vV y5.2.1 y11.2.1 y5.2.2.1 y5.2.2.2.1 y5.2.2.2.2.1 y5.2.2.2.2.2 y11.2.2.1 y11.2.2.2.1 y11.2.2.2.2.1 y11.2.2.2.2.2)) fun y21=>
      M.pure y21)
      (M.pure false))
     (M.pure false))
    (M.pure false))
   (M.pure false))
  (M.pure false)) (fun v13=>
 M.pure v13)
def uC(e1:EV)(cv2:Int)(cv3:Int):M Bool:=
 M.bind (cond (decide (e1.cid=cv2))
  (M.pure (decide (e1.field=cv3)))
  (M.pure false)) (fun v4=>
 M.pure v4)
def yY(l1:List EV)(cv2:Int)(cv3:Int):Int×List EV->M (M.Step (Int×List EV) (List EV)):=fun⟨v27,some28⟩=>
 cond ((decide (v27 < (l1.length:Int))))
  (M.bind (M.bind (M.idx l1 v27) fun x31=>
  M.bind (cond (decide (x31.kind=1))
   (M.bind (M.det (uC x31 cv2 cv3)) fun v35=>
   M.pure v35)
   (M.pure false)) (fun v33=>
  cond v33
   (M.yc ((some28.length+List.length ([x31]))*80<=140737488355328) <|
   M.pure (some28++[x31]))
   (M.pure some28))) (fun some30=>
  M.pure (.next (((IntKind.i64.wrap (v27+1)),some30)))))
  (M.pure (.done some28))
def xb(l1:List EV)(cv2:Int)(cv3:Int):M (List DT):=
 M.bind (M.loop (yY l1 cv2 cv3) (0,([]:List EV))) (fun some4=>
 M.bind (M.det (vU some4)) fun v39=>
 M.pure v39)
def Zi(l1:List EV)(cid2:Int)(f3:Int):M (List DT):=
 M.bind (M.det (xb l1 cid2 f3)) fun v4=>
 M.pure v4
def vE(e1:EV)(cv2:Int):M Bool:=
 M.pure (decide (e1.cid=cv2))
def yQ(l1:List EV)(cv2:Int):Int×List EV->M (M.Step (Int×List EV) (List EV)):=fun⟨v26,some27⟩=>
 cond ((decide (v26 < (l1.length:Int))))
  (M.bind (M.bind (M.idx l1 v26) fun x30=>
  M.bind (cond (decide (x30.kind=1))
   (M.bind (M.det (vE x30 cv2)) fun v34=>
   M.pure v34)
   (M.pure false)) (fun v32=>
  cond v32
   (M.yc ((some27.length+List.length ([x30]))*80<=140737488355328) <|
   M.pure (some27++[x30]))
   (M.pure some27))) (fun some29=>
  M.pure (.next (((IntKind.i64.wrap (v26+1)),some29)))))
  (M.pure (.done some27))
def xS(l1:List EV)(cv2:Int):M (List DT):=
 M.bind (M.loop (yQ l1 cv2) (0,([]:List EV))) (fun some3=>
 M.bind (M.det (vU some3)) fun v38=>
 M.pure v38)
def vp(l1:List EV)(cid2:Int):M (List DT):=
 M.bind (M.det (xS l1 cid2)) fun v3=>
 M.pure v3
def Zz(e1:EV)(c2:List PT):M EV:=
 M.bind (M.det (xC e1)) fun v3=>
 M.bind (M.det (uB c2 v3.dot)) fun v5=>
 M.bind (cond v5
  (M.pure ([]:List DT))
  (M.pure v3.kills)) (fun e7=>
 M.pure (⟨v3.dot,v3.kind,v3.cid,v3.field,v3.text,e7⟩:EV))
def Wx(a1:DT)(b2:DT):M Int:=
 cond (((decide (a1.dev=b2.dev)&&decide (a1.n=b2.n))))
  (M.pure 0)
  (M.bind (cond (decide (a1.dev < b2.dev))
   (M.pure true)
   (cond (decide (a1.dev=b2.dev))
    (M.pure (decide (a1.n < b2.n)))
    (M.pure false))) (fun v4=>
  cond v4
   (M.pure (-1))
   (M.pure 1)))
def XM(l1:List DT)(d2:DT):Int×List DT->M (M.Step (Int×List DT) (List DT)):=fun⟨i26,out27⟩=>
 cond ((decide (i26 < (l1.length:Int))))
  (M.bind (M.bind (M.idx l1 i26) fun x30=>
  M.bind (M.det (Wx x30 d2)) fun v32=>
  cond (decide (v32 < 0))
   (M.bind (M.idx l1 i26) fun x35=>
   M.yc ((out27.length+List.length ([x35]))*16<=140737488355328) <|
   M.pure (out27++[x35]))
   (M.pure out27)) (fun out29=>
  M.pure (.next (((IntKind.i64.wrap (i26+1)),out29)))))
  (M.pure (.done out27))
def Zj(l1:List DT)(d2:DT):Int×List DT->M (M.Step (Int×List DT) (List DT)):=fun⟨i62,out63⟩=>
 cond ((decide (i62 < (l1.length:Int))))
  (M.bind (M.bind (M.idx l1 i62) fun x66=>
  M.bind (M.det (Wx x66 d2)) fun v68=>
  cond (decide (0 < v68))
   (M.bind (M.idx l1 i62) fun x71=>
   M.yc ((out63.length+List.length ([x71]))*16<=140737488355328) <|
   M.pure (out63++[x71]))
   (M.pure out63)) (fun out65=>
  M.pure (.next (((IntKind.i64.wrap (i62+1)),out65)))))
  (M.pure (.done out63))
def Xv(l1:List DT)(d2:DT):M (List DT):=
 M.bind (M.loop (XM l1 d2) (0,([]:List DT))) (fun out3=>
 M.yc ((out3.length+List.length ([d2]))*16<=140737488355328) <|
 M.bind (M.loop (Zj l1 d2) (0,(out3++[d2]))) (fun out39=>
 M.pure out39))
def YA(a1:List PT):List DT×Int->M (M.Step (List DT×Int) (List DT)):=fun⟨out16,i17⟩=>
 cond ((decide (i17 < (a1.length:Int))))
  (M.bind (M.idx a1 i17) fun x19=>
  M.bind (M.det (Xv out16 (⟨x19.dev,1⟩:DT))) fun v21=>
  M.pure (.next ((v21,(IntKind.i64.wrap (i17+1))))))
  (M.pure (.done out16))
def uj(b2:List PT):List DT×Int->M (M.Step (List DT×Int) (List DT)):=fun⟨out36,i37⟩=>
 cond ((decide (i37 < (b2.length:Int))))
  (M.bind (M.idx b2 i37) fun x39=>
  M.bind (M.det (Xv out36 (⟨x39.dev,1⟩:DT))) fun v41=>
  M.pure (.next ((v41,(IntKind.i64.wrap (i37+1))))))
  (M.pure (.done out36))
def JU(a1:List PT)(b2:List PT):M (List DT):=
 M.bind (M.loop (YA a1) (([]:List DT),0)) (fun out3=>
 M.bind (M.loop (uj b2) (out3,0)) (fun out23=>
 M.pure out23))
def JV(x1:RN):M Bool:=
 M.bind (cond (decide (1<=x1.lo))
  (cond (decide (x1.lo<=x1.hi))
   (M.pure (decide (x1.hi<=281474976710655)))
   (M.pure false))
  (M.pure false)) (fun v2=>
 M.pure v2)
def XN(l1:List Int)(n2:Int):Bool×Int×List Int->M (M.Step (Bool×Int×List Int) (Bool×List Int)):=fun⟨done43,i44,out45⟩=>
 cond ((decide (i44 < (l1.length:Int))))
  (M.bind (M.bind (cond (!done43)
   (M.bind (M.idx l1 i44) fun x51=>
   M.pure (decide (n2<=x51)))
   (M.pure false)) (fun v49=>
  M.bind (cond v49
   (M.yc ((out45.length+List.length ([n2]))*8<=140737488355328) <|
   M.pure (true,(out45++[n2])))
   (M.pure (done43,out45))) (fun⟨done53,out54⟩=>
  M.bind (M.idx l1 i44) fun x57=>
  cond (!decide (x57=n2))
   (M.bind (M.idx l1 i44) fun x60=>
   M.yc ((out54.length+List.length ([x60]))*8<=140737488355328) <|
   M.pure (done53,(out54++[x60])))
   (M.pure (done53,out54))))) (fun⟨done47,out48⟩=>
  M.pure (.next ((done47,(IntKind.i64.wrap (i44+1)),out48)))))
  (M.pure (.done (done43,out45)))
def JW(l1:List Int)(n2:Int):M (List Int):=
 M.bind (M.loop (XN l1 n2) (false,0,([]:List Int))) (fun⟨done3,out4⟩=>
 M.bind (cond (!done3)
  (M.yc ((out4.length+List.length ([n2]))*8<=140737488355328) <|
  M.pure (out4++[n2]))
  (M.pure out4)) (fun out63=>
 M.pure out63))
def uQ(a1:List RN)(b2:List RN):List Int×Int->M (M.Step (List Int×Int) (List Int)):=fun⟨out38,i39⟩=>
 cond ((decide (i39 < (((List.length ((([]:List RN)++a1)++b2)):Int)))))
  (M.bind (M.bind (M.idx (((([]:List RN)++a1)++b2)) i39) fun x42=>
  M.bind (M.det (JV x42)) fun v44=>
  cond v44
   (M.bind (M.idx (((([]:List RN)++a1)++b2)) i39) fun x47=>
   M.bind (M.det (JW out38 x47.lo)) fun v49=>
   M.bind (M.idx (((([]:List RN)++a1)++b2)) i39) fun x51=>
   M.bind (M.det (JW v49 (IntKind.u64.wrap (x51.hi+1)))) fun v53=>
   M.pure v53)
   (M.pure out38)) (fun out41=>
  M.pure (.next ((out41,(IntKind.i64.wrap (i39+1)))))))
  (M.pure (.done out38))
def Wy(a1:List RN)(b2:List RN):M (List Int):=
 M.yc ((List.length ([]:List RN)+a1.length)*16<=140737488355328) <|
 M.yc ((List.length (([]:List RN)++a1)+b2.length)*16<=140737488355328) <|
 M.bind (M.loop (uQ a1 b2) (([]:List Int),0)) (fun out5=>
 M.pure out5)
def XO(l1:List RN)(n2:Int):Int->M (M.Step Int (M.Ex Unit Bool)):=fun i30=>
 cond ((decide (i30 < (l1.length:Int))))
  (M.bind (M.bind (M.idx l1 i30) fun x33=>
  M.bind (M.det (JV x33)) fun v35=>
  cond v35
   (M.bind (M.idx l1 i30) fun x38=>
   cond (decide (x38.lo<=n2))
    (M.bind (M.idx l1 i30) fun x41=>
    M.pure (decide (n2<=x41.hi)))
    (M.pure false))
   (M.pure false)) (fun v32=>
  cond v32
   (M.pure (.done (.ret true)))
   (M.pure (.next (IntKind.i64.wrap (i30+1))))))
  (M.pure (.done (.brk ())))
def US(l1:List RN)(n2:Int):M Bool:=
 M.bind (M.loop (XO l1 n2) 0) (M.exk (fun _=>
 M.pure false))
def XP(v4:List Int)(a1:List RN)(b2:List RN)(how3:Int):Int×List RN->M (M.Step (Int×List RN) (List RN)):=fun⟨i85,out86⟩=>
 cond ((decide ((IntKind.i64.wrap (i85+1)) < (v4.length:Int))))
  (M.bind (M.bind (M.idx v4 i85) fun x89=>
  M.bind (M.det (US a1 x89)) fun v91=>
  M.bind (M.idx v4 i85) fun x93=>
  M.bind (M.det (US b2 x93)) fun v95=>
  M.bind (cond v91
   (M.pure true)
   (M.pure v95)) (fun in97=>
  M.bind (cond (decide (how3=1))
   (M.bind (cond v91
    (M.pure v95)
    (M.pure false)) (fun in101=>
   M.pure in101))
   (M.pure in97)) (fun in99=>
  M.bind (cond (decide (how3=2))
   (M.bind (cond v91
    (M.pure (!v95))
    (M.pure false)) (fun in105=>
   M.pure in105))
   (M.pure in99)) (fun in103=>
  M.bind (cond in103
   (cond ((decide (0<=((IntKind.i64.wrap (((out86.length):Int) - 1))))))
    (M.bind (M.idx out86 ((IntKind.i64.wrap (((out86.length):Int) - 1)))) fun x110=>
    M.bind (M.idx v4 i85) fun x112=>
    M.pure ((decide ((IntKind.u64.wrap (x110.hi+1))=x112))))
    (M.pure false))
   (M.pure false)) (fun v107=>
  cond v107
   (M.bind (M.idx v4 (IntKind.i64.wrap (i85+1))) fun x115=>
   M.bind (M.idx out86 ((IntKind.i64.wrap (((out86.length):Int) - 1)))) fun x117=>
   M.pure ((List.set out86 ((Int.toNat ((IntKind.i64.wrap (((out86.length):Int) - 1))))) ((⟨x117.lo,(IntKind.u64.wrap (x115 - 1))⟩:RN)))))
   (cond in103
    (M.bind (M.idx v4 i85) fun x120=>
    M.bind (M.idx v4 (IntKind.i64.wrap (i85+1))) fun x122=>
    M.yc ((out86.length+List.length ([(⟨x120,(IntKind.u64.wrap (x122 - 1))⟩:RN)]))*16<=140737488355328) <|
    M.pure ((out86++[(⟨x120,(IntKind.u64.wrap (x122 - 1))⟩:RN)])))
    (M.pure out86))))))) (fun out88=>
  M.pure (.next (((IntKind.i64.wrap (i85+1)),out88)))))
  (M.pure (.done out86))
def UT(a1:List RN)(b2:List RN)(how3:Int):M (List RN):=
 M.bind (M.det (Wy a1 b2)) fun v4=>
 M.bind (M.loop (XP v4 a1 b2 how3) (0,([]:List RN))) (fun out6=>
 M.pure out6)
def Vo(a1:List RN)(b2:List RN):M (List RN):=
 M.bind (M.det (UT a1 b2 0)) fun v3=>
 M.pure v3
def YB(c1:List PT)(dev2:Int):List RN×Int->M (M.Step (List RN×Int) (List RN)):=fun⟨out28,i29⟩=>
 cond ((decide (i29 < (c1.length:Int))))
  (M.bind (M.bind (M.bind (M.idx c1 i29) fun x33=>
  cond (decide (x33.dev=dev2))
   (M.pure (!decide (dev2=0)))
   (M.pure false)) (fun v32=>
  cond v32
   (M.bind (M.idx c1 i29) fun x37=>
   M.bind (M.det (Vo out28 x37.runs)) fun v39=>
   M.pure v39)
   (M.pure out28))) (fun out31=>
  M.pure (.next ((out31,(IntKind.i64.wrap (i29+1)))))))
  (M.pure (.done out28))
def WQ(c1:List PT)(dev2:Int):M (List RN):=
 M.bind (M.loop (YB c1 dev2) (([]:List RN),0)) (fun out3=>
 M.pure out3)
def JX(a1:List RN)(b2:List RN):M (List RN):=
 M.bind (M.det (UT a1 b2 1)) fun v3=>
 M.pure v3
def UU(a1:List RN)(b2:List RN):M (List RN):=
 M.bind (M.det (UT a1 b2 2)) fun v3=>
 M.pure v3
def XQ(v4:List DT)(a1:List PT)(b2:List PT)(how3:Int):Int×List PT->M (M.Step (Int×List PT) (List PT)):=fun⟨i57,out58⟩=>
 cond ((decide (i57 < (v4.length:Int))))
  (M.bind (M.bind (M.idx v4 i57) fun x61=>
  M.bind (M.det (WQ a1 x61.dev)) fun v63=>
  M.bind (M.idx v4 i57) fun x65=>
  M.bind (M.det (WQ b2 x65.dev)) fun v67=>
  M.bind (M.det (Vo v63 v67)) fun v69=>
  M.bind (cond (decide (how3=1))
   (M.bind (M.det (JX v63 v67)) fun v73=>
   M.pure v73)
   (M.pure v69)) (fun z71=>
  M.bind (cond (decide (how3=2))
   (M.bind (M.det (UU v63 v67)) fun v77=>
   M.pure v77)
   (M.pure z71)) (fun z75=>
  cond ((decide (0 < (z75.length:Int))))
   (M.bind (M.idx v4 i57) fun x80=>
   M.yc ((out58.length+List.length ([(⟨x80.dev,z75⟩:PT)]))*32<=140737488355328) <|
   M.pure (out58++[(⟨x80.dev,z75⟩:PT)]))
   (M.pure out58)))) (fun out60=>
  M.pure (.next (((IntKind.i64.wrap (i57+1)),out60)))))
  (M.pure (.done out58))
def zDa(a1:List PT)(b2:List PT)(how3:Int):M (List PT):=
 M.bind (M.det (JU a1 b2)) fun v4=>
 M.bind (M.loop (XQ v4 a1 b2 how3) (0,([]:List PT))) (fun out6=>
 M.pure out6)
def yh(e1:EV)(ctx_2:List PT)(nl3:Bool)(m4:List (DT×EV))(nl5:Bool)(m6:List (DT×EV)):M (EV×Int):=
 M.bind (M.bind (M.det (ua (⟨e1.dot,e1.kind,e1.cid,e1.field,e1.text,([]:List DT)⟩:EV))) fun v8=>
 cond (!v8)
  (M.pure (.ret ((((⟨(⟨0,0⟩:DT),0,0,0,(⟨#[]⟩:ByteArray),([]:List DT)⟩:EV),1)))))
  (M.bind (M.det (uB ctx_2 e1.dot)) fun v11=>
  cond v11
   (M.pure (.ret ((((⟨(⟨0,0⟩:DT),0,0,0,(⟨#[]⟩:ByteArray),([]:List DT)⟩:EV),7)))))
   (cond (decide (e1.kind=1))
    (M.bind (M.det (zp ctx_2 nl3 m4 nl5 m6)) fun y15=>
    M.bind (M.det (Zi y15 e1.cid e1.field)) fun v17=>
    M.pure (.brk v17))
    (M.bind (M.det (zp ctx_2 nl3 m4 nl5 m6)) fun y19=>
    M.bind (M.det (vp y19 e1.cid)) fun v21=>
    M.pure (.brk v21))))) (M.exk (fun e7=>
 cond ((decide (256 < (e7.length:Int))))
  (M.pure (((⟨(⟨0,0⟩:DT),0,0,0,(⟨#[]⟩:ByteArray),([]:List DT)⟩:EV),3)))
  (M.pure ((⟨e1.dot,e1.kind,e1.cid,e1.field,e1.text,e7⟩:EV),0))))
def xU(ctx_1:List PT)(nl2:Bool)(m3:List (DT×EV))(nl4:Bool)(m5:List (DT×EV)):M (List EV):=
 M.bind (M.det (vo nl4 m5)) fun y6=>
 M.pure y6
def vF(l1:List EV)(c2:List PT)(nl3:Bool):Int×(List (DT×EV))->M (M.Step (Int×(List (DT×EV))) (Bool×(List (DT×EV)))):=fun⟨v23,v24⟩=>
 cond ((decide (v23 < (l1.length:Int))))
  (M.bind (M.bind (M.idx l1 v23) fun x27=>
  cond (AL.has v24 x27.dot)
   (M.bind (M.det (Zz x27 c2)) fun v30=>
   M.yc (AL.has v24 x27.dot=true) <|
   M.pure (AL.set v24 x27.dot v30))
   (M.pure v24)) (fun v26=>
  M.pure (.next (((IntKind.i64.wrap (v23+1)),v26)))))
  (M.pure (.done (nl3,v24)))
def ZN(l1:List EV)(c2:List PT)(nl3:Bool)(m4:List (DT×EV)):M (Bool×(List (DT×EV))):=
 M.loop (vF l1 c2 nl3) (0,m4)
def yj(y7:List EV)(c1:List PT):Int×Int×(List (DT×EV))->M (M.Step (Int×Int×(List (DT×EV))) (Int×(List (DT×EV)))):=fun⟨n30,v31,v32⟩=>
 cond ((decide (v31 < ((y7.length):Int))))
  (M.bind (M.bind (M.idx y7 v31) fun x36=>
  M.bind (M.det (uB c1 x36.dot)) fun v38=>
  cond v38
   (M.pure (((IntKind.i64.wrap (n30+1)),(AL.del v32 x36.dot))))
   (M.pure (n30,v32))) (fun⟨n34,v35⟩=>
  M.pure (.next ((n34,(IntKind.i64.wrap (v31+1)),v35)))))
  (M.pure (.done (n30,v32)))
def xm(c1:List PT)(ctx_2:List PT)(nl3:Bool)(m4:List (DT×EV))(nl5:Bool)(m6:List (DT×EV)):M (Int×Bool×(List (DT×EV))×Bool×(List (DT×EV))):=
 M.bind (M.det (xU ctx_2 nl3 m4 nl5 m6)) fun y7=>
 M.bind (M.loop (yj y7 c1) (0,0,m6)) (fun⟨n9,v10⟩=>
 M.bind (M.det (zp ctx_2 nl3 m4 nl5 v10)) fun y41=>
 M.bind (M.det (ZN y41 c1 nl3 m4)) fun y43=>
 M.pure (n9,y43.1,y43.2,nl5,v10))
def YC(a1:List DT)(b2:List DT):Int->M (M.Step Int (M.Ex Unit Bool)):=fun i17=>
 cond ((decide (i17 < (a1.length:Int))))
  (M.bind (M.idx a1 i17) fun x19=>
  M.bind (M.idx b2 i17) fun x21=>
  cond ((!(decide (x19.dev=x21.dev)&&decide (x19.n=x21.n))))
   (M.pure (.done (.ret false)))
   (M.pure (.next (IntKind.i64.wrap (i17+1)))))
  (M.pure (.done (.brk ())))
def WR(a1:List DT)(b2:List DT):M Bool:=
 cond ((!decide ((a1.length:Int)=(b2.length:Int))))
  (M.pure false)
  (M.bind (M.loop (YC a1 b2) 0) (M.exk (fun _=>
  M.pure true)))
def Vp(a1:EV)(b2:EV):M Bool:=
 M.bind (cond (((decide (a1.dot.dev=b2.dot.dev)&&decide (a1.dot.n=b2.dot.n))))
  (cond (decide (a1.kind=b2.kind))
   (cond (decide (a1.cid=b2.cid))
    (cond (decide (a1.field=b2.field))
     (cond (decide (a1.text=b2.text))
      (M.bind (M.det (WR a1.kills b2.kills)) fun v9=>
      M.pure v9)
      (M.pure false))
     (M.pure false))
    (M.pure false))
   (M.pure false))
  (M.pure false)) (fun v3=>
 M.pure v3)
def XR(a1:List EV)(b2:List EV):Int->M (M.Step Int (M.Ex Unit Bool)):=fun i21=>
 cond ((decide (i21 < (a1.length:Int))))
  (M.bind (M.idx a1 i21) fun x23=>
  M.bind (M.idx b2 i21) fun x25=>
  M.bind (M.det (Vp x23 x25)) fun v27=>
  cond (!v27)
   (M.pure (.done (.ret false)))
   (M.pure (.next (IntKind.i64.wrap (i21+1)))))
  (M.pure (.done (.brk ())))
def JY(a1:List EV)(b2:List EV):M Bool:=
 cond ((!decide ((a1.length:Int)=(b2.length:Int))))
  (M.pure false)
  (M.bind (M.loop (XR a1 b2) 0) (M.exk (fun _=>
  M.pure true)))
def Yi(ctx_1:List PT)(nl2:Bool)(m3:List (DT×EV))(nl4:Bool)(m5:List (DT×EV)):M Bool:=
 M.bind (M.bind (M.det (zI ctx_1 nl2 m3 nl4 m5)) fun y7=>
 M.bind (M.det (zI ctx_1 nl2 m3 nl4 m5)) fun y9=>
 M.bind (M.det (WP y7 y9)) fun v11=>
 cond v11
  (M.bind (M.det (yP ctx_1 nl2 m3 nl4 m5)) fun y14=>
  M.bind (M.det (yP ctx_1 nl2 m3 nl4 m5)) fun y16=>
  M.bind (M.det (Yd y14 y16)) fun v18=>
  M.pure v18)
  (M.pure false)) (fun v6=>
 M.pure v6)
def yG(l1:List L20Deed):Int×Int×Int×Int×List PT×Bool×(List (DT×EV))×Bool×(List (DT×EV))×List PT×Bool×(List (DT×EV))×Bool×(List (DT×EV))×List PT×Bool×(List (DT×EV))×Bool×(List (DT×EV))->M (M.Step (Int×Int×Int×Int×List PT×Bool×(List (DT×EV))×Bool×(List (DT×EV))×List PT×Bool×(List (DT×EV))×Bool×(List (DT×EV))×List PT×Bool×(List (DT×EV))×Bool×(List (DT×EV))) (List PT×Bool×(List (DT×EV))×Bool×(List (DT×EV))×List PT×Bool×(List (DT×EV))×Bool×(List (DT×EV))×List PT×Bool×(List (DT×EV))×Bool×(List (DT×EV)))):=fun⟨i416,next417,next418,next419,v420,nl421,v422,nl423,v424,v425,nl426,v427,nl428,v429,v430,nl431,v432,nl433,v434⟩=>
 cond ((decide (i416 < (l1.length:Int))))
  (M.bind (M.bind (M.idx l1 i416) fun x454=>
  M.bind (M.idx l1 i416) fun x456=>
  M.bind (M.idx l1 i416) fun x458=>
  cond (decide (2 < x458.kind))
   (cond (decide ((IntKind.i64.wrap (Int.tmod x456.whom 3))=0))
    (cond (decide ((IntKind.i64.wrap (Int.tmod x454.who 3))=0))
     (M.bind (M.det (zI v430 nl433 v434 nl431 v432)) fun y466=>
     M.bind (M.det (zQ y466 v430 nl433 v434 nl431 v432)) fun y468=>
     M.bind (M.det (zL y468 v430 nl433 v434 nl431 v432)) fun y470=>
     M.pure (next417,next418,next419,v420,nl421,v422,nl423,v424,v425,nl426,v427,nl428,v429,y470.2.1,y470.2.2.2.2.1,y470.2.2.2.2.2,y470.2.2.1,y470.2.2.2.1))
     (cond (decide ((IntKind.i64.wrap (Int.tmod x454.who 3))=1))
      (M.bind (M.det (zI v430 nl433 v434 nl431 v432)) fun y476=>
      M.bind (M.det (zQ y476 v425 nl428 v429 nl426 v427)) fun y478=>
      M.bind (M.det (zL y478 v430 nl433 v434 nl431 v432)) fun y480=>
      M.pure (next417,next418,next419,v420,nl421,v422,nl423,v424,v425,nl426,v427,nl428,v429,y480.2.1,y480.2.2.2.2.1,y480.2.2.2.2.2,y480.2.2.1,y480.2.2.2.1))
      (M.yc ((IntKind.i64.wrap (Int.tmod x454.who 3))=2) <|
      M.bind (M.det (zI v430 nl433 v434 nl431 v432)) fun y486=>
      M.bind (M.det (zQ y486 v420 nl423 v424 nl421 v422)) fun y488=>
      M.bind (M.det (zL y488 v430 nl433 v434 nl431 v432)) fun y490=>
      M.pure (next417,next418,next419,v420,nl421,v422,nl423,v424,v425,nl426,v427,nl428,v429,y490.2.1,y490.2.2.2.2.1,y490.2.2.2.2.2,y490.2.2.1,y490.2.2.2.1))))
    (cond (decide ((IntKind.i64.wrap (Int.tmod x456.whom 3))=1))
     (cond (decide ((IntKind.i64.wrap (Int.tmod x454.who 3))=0))
      (M.bind (M.det (zI v425 nl428 v429 nl426 v427)) fun y497=>
      M.bind (M.det (zQ y497 v430 nl433 v434 nl431 v432)) fun y499=>
      M.bind (M.det (zL y499 v425 nl428 v429 nl426 v427)) fun y501=>
      M.pure (next417,next418,next419,v420,nl421,v422,nl423,v424,y501.2.1,y501.2.2.2.2.1,y501.2.2.2.2.2,y501.2.2.1,y501.2.2.2.1,v430,nl431,v432,nl433,v434))
      (cond (decide ((IntKind.i64.wrap (Int.tmod x454.who 3))=1))
       (M.bind (M.det (zI v425 nl428 v429 nl426 v427)) fun y507=>
       M.bind (M.det (zQ y507 v425 nl428 v429 nl426 v427)) fun y509=>
       M.bind (M.det (zL y509 v425 nl428 v429 nl426 v427)) fun y511=>
       M.pure (next417,next418,next419,v420,nl421,v422,nl423,v424,y511.2.1,y511.2.2.2.2.1,y511.2.2.2.2.2,y511.2.2.1,y511.2.2.2.1,v430,nl431,v432,nl433,v434))
       (M.yc ((IntKind.i64.wrap (Int.tmod x454.who 3))=2) <|
       M.bind (M.det (zI v425 nl428 v429 nl426 v427)) fun y517=>
       M.bind (M.det (zQ y517 v420 nl423 v424 nl421 v422)) fun y519=>
       M.bind (M.det (zL y519 v425 nl428 v429 nl426 v427)) fun y521=>
       M.pure (next417,next418,next419,v420,nl421,v422,nl423,v424,y521.2.1,y521.2.2.2.2.1,y521.2.2.2.2.2,y521.2.2.1,y521.2.2.2.1,v430,nl431,v432,nl433,v434))))
     (M.yc ((IntKind.i64.wrap (Int.tmod x456.whom 3))=2) <|
     cond (decide ((IntKind.i64.wrap (Int.tmod x454.who 3))=0))
      (M.bind (M.det (zI v420 nl423 v424 nl421 v422)) fun y528=>
      M.bind (M.det (zQ y528 v430 nl433 v434 nl431 v432)) fun y530=>
      M.bind (M.det (zL y530 v420 nl423 v424 nl421 v422)) fun y532=>
      M.pure (next417,next418,next419,y532.2.1,y532.2.2.2.2.1,y532.2.2.2.2.2,y532.2.2.1,y532.2.2.2.1,v425,nl426,v427,nl428,v429,v430,nl431,v432,nl433,v434))
      (cond (decide ((IntKind.i64.wrap (Int.tmod x454.who 3))=1))
       (M.bind (M.det (zI v420 nl423 v424 nl421 v422)) fun y538=>
       M.bind (M.det (zQ y538 v425 nl428 v429 nl426 v427)) fun y540=>
       M.bind (M.det (zL y540 v420 nl423 v424 nl421 v422)) fun y542=>
       M.pure (next417,next418,next419,y542.2.1,y542.2.2.2.2.1,y542.2.2.2.2.2,y542.2.2.1,y542.2.2.2.1,v425,nl426,v427,nl428,v429,v430,nl431,v432,nl433,v434))
       (M.yc ((IntKind.i64.wrap (Int.tmod x454.who 3))=2) <|
       M.bind (M.det (zI v420 nl423 v424 nl421 v422)) fun y548=>
       M.bind (M.det (zQ y548 v420 nl423 v424 nl421 v422)) fun y550=>
       M.bind (M.det (zL y550 v420 nl423 v424 nl421 v422)) fun y552=>
       M.pure (next417,next418,next419,y552.2.1,y552.2.2.2.2.1,y552.2.2.2.2.2,y552.2.2.1,y552.2.2.2.1,v425,nl426,v427,nl428,v429,v430,nl431,v432,nl433,v434))))))
   (cond (decide ((IntKind.i64.wrap (Int.tmod x454.who 3))=0))
    (M.bind (M.idx l1 i416) fun x556=>
    M.bind (M.idx l1 i416) fun x558=>
    M.bind (M.idx l1 i416) fun x560=>
    M.bind (cond (decide (x560.kind=2))
     (M.pure (2,0))
     (M.pure ((1,(IntKind.u8.wrap (1+(Int.tmod x558.field 2))))))) (fun⟨e562,e563⟩=>
    M.bind (M.det (yh ((⟨(⟨(IntKind.u16.wrap 1),(IntKind.u64.wrap (next417+1))⟩:DT),e562,(IntKind.u64.wrap (281474976710657+(IntKind.u64.wrap (Int.tmod x556.cid 3)))),e563,(⟨#[]⟩:ByteArray),([]:List DT)⟩:EV)) v430 nl433 v434 nl431 v432)) fun y566=>
    M.bind (M.det (zl y566.1 v430 nl433 v434 nl431 v432)) fun y569=>
    M.pure (((IntKind.u64.wrap (next417+1)),next418,next419,v420,nl421,v422,nl423,v424,v425,nl426,v427,nl428,v429,y569.2.1,y569.2.2.2.2.1,y569.2.2.2.2.2,y569.2.2.1,y569.2.2.2.1))))
    (cond (decide ((IntKind.i64.wrap (Int.tmod x454.who 3))=1))
     (M.bind (M.idx l1 i416) fun x575=>
     M.bind (M.idx l1 i416) fun x577=>
     M.bind (M.idx l1 i416) fun x579=>
     M.bind (cond (decide (x579.kind=2))
      (M.pure (2,0))
      (M.pure ((1,(IntKind.u8.wrap (1+(Int.tmod x577.field 2))))))) (fun⟨e581,e582⟩=>
     M.bind (M.det (yh ((⟨(⟨(IntKind.u16.wrap 2),(IntKind.u64.wrap (next418+1))⟩:DT),e581,(IntKind.u64.wrap (281474976710657+(IntKind.u64.wrap (Int.tmod x575.cid 3)))),e582,(⟨#[]⟩:ByteArray),([]:List DT)⟩:EV)) v425 nl428 v429 nl426 v427)) fun y585=>
     M.bind (M.det (zl y585.1 v425 nl428 v429 nl426 v427)) fun y588=>
     M.pure ((next417,(IntKind.u64.wrap (next418+1)),next419,v420,nl421,v422,nl423,v424,y588.2.1,y588.2.2.2.2.1,y588.2.2.2.2.2,y588.2.2.1,y588.2.2.2.1,v430,nl431,v432,nl433,v434))))
     (M.yc ((IntKind.i64.wrap (Int.tmod x454.who 3))=2) <|
     M.bind (M.idx l1 i416) fun x594=>
     M.bind (M.idx l1 i416) fun x596=>
     M.bind (M.idx l1 i416) fun x598=>
     M.bind (cond (decide (x598.kind=2))
      (M.pure (2,0))
      (M.pure ((1,(IntKind.u8.wrap (1+(Int.tmod x596.field 2))))))) (fun⟨e600,e601⟩=>
     M.bind (M.det (yh ((⟨(⟨(IntKind.u16.wrap 3),(IntKind.u64.wrap (next419+1))⟩:DT),e600,(IntKind.u64.wrap (281474976710657+(IntKind.u64.wrap (Int.tmod x594.cid 3)))),e601,(⟨#[]⟩:ByteArray),([]:List DT)⟩:EV)) v420 nl423 v424 nl421 v422)) fun y604=>
     M.bind (M.det (zl y604.1 v420 nl423 v424 nl421 v422)) fun y607=>
     M.pure ((next417,next418,(IntKind.u64.wrap (next419+1)),y607.2.1,y607.2.2.2.2.1,y607.2.2.2.2.2,y607.2.2.1,y607.2.2.2.1,v425,nl426,v427,nl428,v429,v430,nl431,v432,nl433,v434))))))) (fun⟨next436,next437,next438,v439,nl440,v441,nl442,v443,v444,nl445,v446,nl447,v448,v449,nl450,v451,nl452,v453⟩=>
  M.pure (.next (((IntKind.i64.wrap (i416+1)),next436,next437,next438,v439,nl440,v441,nl442,v443,v444,nl445,v446,nl447,v448,v449,nl450,v451,nl452,v453)))))
  (M.pure (.done (v420,nl421,v422,nl423,v424,v425,nl426,v427,nl428,v429,v430,nl431,v432,nl433,v434)))
def yH(from2:Int):Int×List PT×Bool×(List (DT×EV))×Bool×(List (DT×EV))×List PT×Bool×(List (DT×EV))×Bool×(List (DT×EV))×List PT×Bool×(List (DT×EV))×Bool×(List (DT×EV))->M (M.Step (Int×List PT×Bool×(List (DT×EV))×Bool×(List (DT×EV))×List PT×Bool×(List (DT×EV))×Bool×(List (DT×EV))×List PT×Bool×(List (DT×EV))×Bool×(List (DT×EV))) (M.Ex (List PT×Bool×(List (DT×EV))×Bool×(List (DT×EV))×List PT×Bool×(List (DT×EV))×Bool×(List (DT×EV))×List PT×Bool×(List (DT×EV))×Bool×(List (DT×EV))) (M.Step (Int×List PT×Bool×(List (DT×EV))×Bool×(List (DT×EV))×List PT×Bool×(List (DT×EV))×Bool×(List (DT×EV))×List PT×Bool×(List (DT×EV))×Bool×(List (DT×EV))) (M.Ex (List PT×Bool×(List (DT×EV))×Bool×(List (DT×EV))×List PT×Bool×(List (DT×EV))×Bool×(List (DT×EV))×List PT×Bool×(List (DT×EV))×Bool×(List (DT×EV))) Bool)))):=fun⟨i1726,v1727,nl1728,v1729,nl1730,v1731,v1732,nl1733,v1734,nl1735,v1736,v1737,nl1738,v1739,nl1740,v1741⟩=>
 cond (decide (i1726 < 9))
  (M.bind (cond (decide ((Int.tmod ((IntKind.i64.wrap ((IntKind.i64.wrap (Int.tdiv i1726 3))+(IntKind.i64.wrap from2)))) 3)=0))
   (cond (decide ((Int.tmod ((IntKind.i64.wrap (i1726+(IntKind.i64.wrap from2)))) 3)=0))
    (M.bind (M.det (zI v1737 nl1740 v1741 nl1738 v1739)) fun y1763=>
    M.bind (M.det (zQ y1763 v1737 nl1740 v1741 nl1738 v1739)) fun y1765=>
    M.bind (M.det (zL y1765 v1737 nl1740 v1741 nl1738 v1739)) fun y1767=>
    cond (!decide (y1767.1=0))
     (M.pure (.ret ((.done ((.ret (.done (.ret false))))))))
     (M.pure (.brk (v1727,nl1728,v1729,nl1730,v1731,v1732,nl1733,v1734,nl1735,v1736,y1767.2.1,y1767.2.2.2.2.1,y1767.2.2.2.2.2,y1767.2.2.1,y1767.2.2.2.1))))
    (cond (decide ((Int.tmod ((IntKind.i64.wrap (i1726+(IntKind.i64.wrap from2)))) 3)=1))
     (M.bind (M.det (zI v1737 nl1740 v1741 nl1738 v1739)) fun y1774=>
     M.bind (M.det (zQ y1774 v1732 nl1735 v1736 nl1733 v1734)) fun y1776=>
     M.bind (M.det (zL y1776 v1737 nl1740 v1741 nl1738 v1739)) fun y1778=>
     cond (!decide (y1778.1=0))
      (M.pure (.ret ((.done ((.ret (.done (.ret false))))))))
      (M.pure (.brk (v1727,nl1728,v1729,nl1730,v1731,v1732,nl1733,v1734,nl1735,v1736,y1778.2.1,y1778.2.2.2.2.1,y1778.2.2.2.2.2,y1778.2.2.1,y1778.2.2.2.1))))
     (M.yc ((Int.tmod ((IntKind.i64.wrap (i1726+(IntKind.i64.wrap from2)))) 3)=2) <|
     M.bind (M.det (zI v1737 nl1740 v1741 nl1738 v1739)) fun y1785=>
     M.bind (M.det (zQ y1785 v1727 nl1730 v1731 nl1728 v1729)) fun y1787=>
     M.bind (M.det (zL y1787 v1737 nl1740 v1741 nl1738 v1739)) fun y1789=>
     cond (!decide (y1789.1=0))
      (M.pure (.ret ((.done ((.ret (.done (.ret false))))))))
      (M.pure (.brk (v1727,nl1728,v1729,nl1730,v1731,v1732,nl1733,v1734,nl1735,v1736,y1789.2.1,y1789.2.2.2.2.1,y1789.2.2.2.2.2,y1789.2.2.1,y1789.2.2.2.1))))))
   (cond (decide ((Int.tmod ((IntKind.i64.wrap ((IntKind.i64.wrap (Int.tdiv i1726 3))+(IntKind.i64.wrap from2)))) 3)=1))
    (cond (decide ((Int.tmod ((IntKind.i64.wrap (i1726+(IntKind.i64.wrap from2)))) 3)=0))
     (M.bind (M.det (zI v1732 nl1735 v1736 nl1733 v1734)) fun y1797=>
     M.bind (M.det (zQ y1797 v1737 nl1740 v1741 nl1738 v1739)) fun y1799=>
     M.bind (M.det (zL y1799 v1732 nl1735 v1736 nl1733 v1734)) fun y1801=>
     cond (!decide (y1801.1=0))
      (M.pure (.ret ((.done ((.ret (.done (.ret false))))))))
      (M.pure (.brk (v1727,nl1728,v1729,nl1730,v1731,y1801.2.1,y1801.2.2.2.2.1,y1801.2.2.2.2.2,y1801.2.2.1,y1801.2.2.2.1,v1737,nl1738,v1739,nl1740,v1741))))
     (cond (decide ((Int.tmod ((IntKind.i64.wrap (i1726+(IntKind.i64.wrap from2)))) 3)=1))
      (M.bind (M.det (zI v1732 nl1735 v1736 nl1733 v1734)) fun y1808=>
      M.bind (M.det (zQ y1808 v1732 nl1735 v1736 nl1733 v1734)) fun y1810=>
      M.bind (M.det (zL y1810 v1732 nl1735 v1736 nl1733 v1734)) fun y1812=>
      cond (!decide (y1812.1=0))
       (M.pure (.ret ((.done ((.ret (.done (.ret false))))))))
       (M.pure (.brk (v1727,nl1728,v1729,nl1730,v1731,y1812.2.1,y1812.2.2.2.2.1,y1812.2.2.2.2.2,y1812.2.2.1,y1812.2.2.2.1,v1737,nl1738,v1739,nl1740,v1741))))
      (M.yc ((Int.tmod ((IntKind.i64.wrap (i1726+(IntKind.i64.wrap from2)))) 3)=2) <|
      M.bind (M.det (zI v1732 nl1735 v1736 nl1733 v1734)) fun y1819=>
      M.bind (M.det (zQ y1819 v1727 nl1730 v1731 nl1728 v1729)) fun y1821=>
      M.bind (M.det (zL y1821 v1732 nl1735 v1736 nl1733 v1734)) fun y1823=>
      cond (!decide (y1823.1=0))
       (M.pure (.ret ((.done ((.ret (.done (.ret false))))))))
       (M.pure (.brk (v1727,nl1728,v1729,nl1730,v1731,y1823.2.1,y1823.2.2.2.2.1,y1823.2.2.2.2.2,y1823.2.2.1,y1823.2.2.2.1,v1737,nl1738,v1739,nl1740,v1741))))))
    (M.yc ((Int.tmod ((IntKind.i64.wrap ((IntKind.i64.wrap (Int.tdiv i1726 3))+(IntKind.i64.wrap from2)))) 3)=2) <|
    cond (decide ((Int.tmod ((IntKind.i64.wrap (i1726+(IntKind.i64.wrap from2)))) 3)=0))
     (M.bind (M.det (zI v1727 nl1730 v1731 nl1728 v1729)) fun y1831=>
     M.bind (M.det (zQ y1831 v1737 nl1740 v1741 nl1738 v1739)) fun y1833=>
     M.bind (M.det (zL y1833 v1727 nl1730 v1731 nl1728 v1729)) fun y1835=>
     cond (!decide (y1835.1=0))
      (M.pure (.ret ((.done ((.ret (.done (.ret false))))))))
      (M.pure (.brk (y1835.2.1,y1835.2.2.2.2.1,y1835.2.2.2.2.2,y1835.2.2.1,y1835.2.2.2.1,v1732,nl1733,v1734,nl1735,v1736,v1737,nl1738,v1739,nl1740,v1741))))
     (cond (decide ((Int.tmod ((IntKind.i64.wrap (i1726+(IntKind.i64.wrap from2)))) 3)=1))
      (M.bind (M.det (zI v1727 nl1730 v1731 nl1728 v1729)) fun y1842=>
      M.bind (M.det (zQ y1842 v1732 nl1735 v1736 nl1733 v1734)) fun y1844=>
      M.bind (M.det (zL y1844 v1727 nl1730 v1731 nl1728 v1729)) fun y1846=>
      cond (!decide (y1846.1=0))
       (M.pure (.ret ((.done ((.ret (.done (.ret false))))))))
       (M.pure (.brk (y1846.2.1,y1846.2.2.2.2.1,y1846.2.2.2.2.2,y1846.2.2.1,y1846.2.2.2.1,v1732,nl1733,v1734,nl1735,v1736,v1737,nl1738,v1739,nl1740,v1741))))
      (M.yc ((Int.tmod ((IntKind.i64.wrap (i1726+(IntKind.i64.wrap from2)))) 3)=2) <|
      M.bind (M.det (zI v1727 nl1730 v1731 nl1728 v1729)) fun y1853=>
      M.bind (M.det (zQ y1853 v1727 nl1730 v1731 nl1728 v1729)) fun y1855=>
      M.bind (M.det (zL y1855 v1727 nl1730 v1731 nl1728 v1729)) fun y1857=>
      cond (!decide (y1857.1=0))
       (M.pure (.ret ((.done ((.ret (.done (.ret false))))))))
       (M.pure (.brk (y1857.2.1,y1857.2.2.2.2.1,y1857.2.2.2.2.2,y1857.2.2.1,y1857.2.2.2.1,v1732,nl1733,v1734,nl1735,v1736,v1737,nl1738,v1739,nl1740,v1741)))))))) (M.exk (fun⟨v1743,nl1744,v1745,nl1746,v1747,v1748,nl1749,v1750,nl1751,v1752,v1753,nl1754,v1755,nl1756,v1757⟩=>
  M.pure (.next (((IntKind.i64.wrap (i1726+1)),v1743,nl1744,v1745,nl1746,v1747,v1748,nl1749,v1750,nl1751,v1752,v1753,nl1754,v1755,nl1756,v1757))))))
  (M.pure (.done (.brk (v1727,nl1728,v1729,nl1730,v1731,v1732,nl1733,v1734,nl1735,v1736,v1737,nl1738,v1739,nl1740,v1741))))
def yr(from2:Int):Int×List PT×Bool×(List (DT×EV))×Bool×(List (DT×EV))×List PT×Bool×(List (DT×EV))×Bool×(List (DT×EV))×List PT×Bool×(List (DT×EV))×Bool×(List (DT×EV))->M (M.Step (Int×List PT×Bool×(List (DT×EV))×Bool×(List (DT×EV))×List PT×Bool×(List (DT×EV))×Bool×(List (DT×EV))×List PT×Bool×(List (DT×EV))×Bool×(List (DT×EV))) (M.Ex (List PT×Bool×(List (DT×EV))×Bool×(List (DT×EV))×List PT×Bool×(List (DT×EV))×Bool×(List (DT×EV))×List PT×Bool×(List (DT×EV))×Bool×(List (DT×EV))) Bool)):=fun⟨again1443,v1444,nl1445,v1446,nl1447,v1448,v1449,nl1450,v1451,nl1452,v1453,v1454,nl1455,v1456,nl1457,v1458⟩=>
 cond (decide (again1443 < 2))
  (M.bind (M.loop (yH from2) (0,v1444,nl1445,v1446,nl1447,v1448,v1449,nl1450,v1451,nl1452,v1453,v1454,nl1455,v1456,nl1457,v1458)) (M.exk (fun⟨v1460,nl1461,v1462,nl1463,v1464,v1465,nl1466,v1467,nl1468,v1469,v1470,nl1471,v1472,nl1473,v1474⟩=>
  M.pure (.next (((IntKind.i64.wrap (again1443+1)),v1460,nl1461,v1462,nl1463,v1464,v1465,nl1466,v1467,nl1468,v1469,v1470,nl1471,v1472,nl1473,v1474))))))
  (M.pure (.done (.brk (v1444,nl1445,v1446,nl1447,v1448,v1449,nl1450,v1451,nl1452,v1453,v1454,nl1455,v1456,nl1457,v1458))))
def wH(l1:List L20Deed)(from2:Int):M Bool:=
 cond ((decide (40 < (l1.length:Int))))
  (M.bind (M.det (Yh)) fun v4=>
  M.pure v4)
  (M.bind (M.bind (M.det (wh)) fun y21=>
  M.bind (M.det (wh)) fun y24=>
  M.bind (M.det (wh)) fun y27=>
  M.pure (y27.1,y27.2.2.2.1,y27.2.2.2.2,y27.2.1,y27.2.2.1,y24.1,y24.2.2.2.1,y24.2.2.2.2,y24.2.1,y24.2.2.1,y21.1,y21.2.2.2.1,y21.2.2.2.2,y21.2.1,y21.2.2.1)) (fun⟨v6,nl7,v8,nl9,v10,v11,nl12,v13,nl14,v15,v16,nl17,v18,nl19,v20⟩=>
  M.bind (M.loop (yG l1) (0,0,0,0,v6,nl7,v8,nl9,v10,v11,nl12,v13,nl14,v15,v16,nl17,v18,nl19,v20)) (fun⟨v30,nl31,v32,nl33,v34,v35,nl36,v37,nl38,v39,v40,nl41,v42,nl43,v44⟩=>
  M.bind (M.loop (yr from2) (0,v30,nl31,v32,nl33,v34,v35,nl36,v37,nl38,v39,v40,nl41,v42,nl43,v44)) (M.exk (fun⟨v611,nl612,v613,nl614,v615,v616,nl617,v618,nl619,v620,v621,nl622,v623,nl624,v625⟩=>
  M.bind (M.det (zI v621 nl624 v625 nl622 v623)) fun y1861=>
  M.bind (M.bind (M.det (Yi v621 nl624 v625 nl622 v623)) fun y1865=>
  cond (!y1865)
   (M.pure (.ret false))
   (M.bind (M.det (vV v616 v621 nl619 v620 nl617 v618 nl624 v625 nl622 v623)) fun y1870=>
   cond (!y1870)
    (M.pure (.ret false))
    (M.bind (M.det (vV v611 v621 nl614 v615 nl612 v613 nl624 v625 nl622 v623)) fun y1875=>
    cond (!y1875)
     (M.pure (.ret false))
     (M.pure (.brk ()))))) (M.exk (fun _=>
  M.bind (M.det (xm y1861 v621 nl624 v625 nl622 v623)) fun y1879=>
  M.bind (M.bind (M.det (xU v621 y1879.2.1 y1879.2.2.1 y1879.2.2.2.1 y1879.2.2.2.2)) fun y1883=>
  cond ((decide ((y1883.length:Int)=0)))
   (M.bind (M.det (yP v621 y1879.2.1 y1879.2.2.1 y1879.2.2.2.1 y1879.2.2.2.2)) fun y1887=>
   M.bind (M.det (zp v621 y1879.2.1 y1879.2.2.1 y1879.2.2.2.1 y1879.2.2.2.2)) fun y1890=>
   M.bind (M.det (JY y1887 y1890)) fun v1892=>
   cond v1892
    (M.bind (M.det (Yh)) fun v1895=>
    M.pure v1895)
    (M.pure false))
   (M.pure false)) (fun v1881=>
  M.pure v1881))))))))
end Go.Ep
namespace Go.Proofs
open Go.Shelf
def Tryz.pdq95_ren : Go.Shelf.Ren:=⟨fun | 14=>95 | 20=>113 | 21=>114 | 22=>115 | 23=>116 | 24=>117 | 25=>118 | 26=>119 | 27=>120 | 46=>144 | 47=>145 | 48=>146 | 49=>147 | 50=>148 | 15=>96 | 57=>164 | 28=>121 | 29=>122 | n=>n,fun | 24=>37 | 22=>47 | 3=>3 | 25=>111 | 4=>4 | 0=>0 | 46=>151 | 45=>150 | 50=>117 | 66=>171 | 39=>134 | 55=>26 | 70=>175 | 76=>187 | 77=>188 | 53=>157 | 5=>5 | 9=>9 | n=>n,fun | n=>n⟩
theorem Tryz.pdq95 : Go.Proofs.SlLaysF0.n14 Tryz.prog Tryz.pdq95_ren:={
 mixed:=by kernel_rfl
 f14:=⟨Tryz.f95.name,by decide,Tryz.func95.trans (congrArg some (by kernel_rfl))⟩
 f15:=Tryz.func96.trans (congrArg some (by kernel_rfl))
 f20:=⟨Tryz.f113.name,by decide,Tryz.func113.trans (congrArg some (by kernel_rfl))⟩
 f21:=⟨Tryz.f114.name,by decide,Tryz.func114.trans (congrArg some (by kernel_rfl))⟩
 f22:=⟨Tryz.f115.name,by decide,Tryz.func115.trans (congrArg some (by kernel_rfl))⟩
 f23:=⟨Tryz.f116.name,by decide,Tryz.func116.trans (congrArg some (by kernel_rfl))⟩
 f24:=⟨Tryz.f117.name,by decide,Tryz.func117.trans (congrArg some (by kernel_rfl))⟩
 f25:=⟨Tryz.f118.name,by decide,Tryz.func118.trans (congrArg some (by kernel_rfl))⟩
 f26:=⟨Tryz.f119.name,by decide,Tryz.func119.trans (congrArg some (by kernel_rfl))⟩
 f27:=⟨Tryz.f120.name,by decide,Tryz.func120.trans (congrArg some (by kernel_rfl))⟩
 f28:=Tryz.func121.trans (congrArg some (by kernel_rfl))
 f29:=Tryz.func122.trans (congrArg some (by kernel_rfl))
 f46:=⟨Tryz.f144.name,by decide,Tryz.func144.trans (congrArg some (by kernel_rfl))⟩
 f47:=Tryz.func145.trans (congrArg some (by kernel_rfl))
 f48:=Tryz.func146.trans (congrArg some (by kernel_rfl))
 f49:=⟨Tryz.f147.name,by decide,Tryz.func147.trans (congrArg some (by kernel_rfl))⟩
 f50:=⟨Tryz.f148.name,by decide,Tryz.func148.trans (congrArg some (by kernel_rfl))⟩
 f57:=⟨Tryz.f164.name,by decide,Tryz.func164.trans (congrArg some (by kernel_rfl))⟩
 t0:=Tryz.underlying0
 a0:=Tryz.isAgg0
 z0:=Tryz.sizeOf0
 v0:=Tryz.zeroValue0
 t3:=Tryz.underlying3
 a3:=Tryz.isAgg3
 z3:=Tryz.sizeOf3
 v3:=Tryz.zeroValue3
 t4:=Tryz.underlying4
 a4:=Tryz.isAgg4
 z4:=Tryz.sizeOf4
 v4:=Tryz.zeroValue4
 t5:=Tryz.underlying5
 a5:=Tryz.isAgg5
 z5:=Tryz.sizeOf5
 v5:=Tryz.zeroValue5
 t9:=Tryz.underlying9
 a9:=Tryz.isAgg9
 z9:=Tryz.sizeOf9
 v9:=Tryz.zeroValue9
 t22:=Tryz.underlying47
 a22:=Tryz.isAgg47
 z22:=Tryz.sizeOf47
 v22:=Tryz.zeroValue47
 t25:=Tryz.underlying111
 a25:=Tryz.isAgg111
 z25:=Tryz.sizeOf111
 v25:=Tryz.zeroValue111
 t39:=Tryz.underlying134
 a39:=Tryz.isAgg134
 z39:=Tryz.sizeOf134
 v39:=Tryz.zeroValue134
 t45:=Tryz.underlying150
 a45:=Tryz.isAgg150
 z45:=Tryz.sizeOf150
 v45:=Tryz.zeroValue150
 t46:=Tryz.underlying151
 a46:=Tryz.isAgg151
 z46:=Tryz.sizeOf151
 v46:=Tryz.zeroValue151
 t50:=Tryz.underlying117
 a50:=Tryz.isAgg117
 z50:=Tryz.sizeOf117
 v50:=Tryz.zeroValue117
 t53:=Tryz.underlying157
 a53:=Tryz.isAgg157
 z53:=Tryz.sizeOf157
 v53:=Tryz.zeroValue157
 t55:=Tryz.underlying26
 a55:=Tryz.isAgg26
 z55:=Tryz.sizeOf26
 v55:=Tryz.zeroValue26
 t66:=Tryz.underlying171
 a66:=Tryz.isAgg171
 z66:=Tryz.sizeOf171
 v66:=Tryz.zeroValue171
 t70:=Tryz.underlying175
 a70:=Tryz.isAgg175
 z70:=Tryz.sizeOf175
 v70:=Tryz.zeroValue175
 t76:=Tryz.underlying187
 a76:=Tryz.isAgg187
 z76:=Tryz.sizeOf187
 v76:=Tryz.zeroValue187
 t77:=Tryz.underlying188
 a77:=Tryz.isAgg188
 z77:=Tryz.sizeOf188
 v77:=Tryz.zeroValue188 }
def Tryz.pdq105_ren : Go.Shelf.Ren:=⟨fun | 14=>105 | 20=>125 | 21=>126 | 22=>127 | 23=>128 | 24=>129 | 25=>130 | 26=>131 | 27=>132 | 46=>157 | 47=>145 | 48=>146 | 49=>158 | 50=>159 | 15=>96 | 57=>168 | 28=>121 | 29=>122 | n=>n,fun | 24=>34 | 22=>35 | 3=>3 | 25=>95 | 4=>4 | 0=>0 | 46=>151 | 45=>150 | 50=>117 | 66=>171 | 39=>134 | 55=>26 | 70=>175 | 76=>187 | 77=>188 | 53=>157 | 5=>5 | 9=>9 | n=>n,fun | n=>n⟩
theorem Tryz.pdq105 : Go.Proofs.SlLaysF0.n14 Tryz.prog Tryz.pdq105_ren:={
 mixed:=by kernel_rfl
 f14:=⟨Tryz.f105.name,by decide,Tryz.func105.trans (congrArg some (by kernel_rfl))⟩
 f15:=Tryz.func96.trans (congrArg some (by kernel_rfl))
 f20:=⟨Tryz.f125.name,by decide,Tryz.func125.trans (congrArg some (by kernel_rfl))⟩
 f21:=⟨Tryz.f126.name,by decide,Tryz.func126.trans (congrArg some (by kernel_rfl))⟩
 f22:=⟨Tryz.f127.name,by decide,Tryz.func127.trans (congrArg some (by kernel_rfl))⟩
 f23:=⟨Tryz.f128.name,by decide,Tryz.func128.trans (congrArg some (by kernel_rfl))⟩
 f24:=⟨Tryz.f129.name,by decide,Tryz.func129.trans (congrArg some (by kernel_rfl))⟩
 f25:=⟨Tryz.f130.name,by decide,Tryz.func130.trans (congrArg some (by kernel_rfl))⟩
 f26:=⟨Tryz.f131.name,by decide,Tryz.func131.trans (congrArg some (by kernel_rfl))⟩
 f27:=⟨Tryz.f132.name,by decide,Tryz.func132.trans (congrArg some (by kernel_rfl))⟩
 f28:=Tryz.func121.trans (congrArg some (by kernel_rfl))
 f29:=Tryz.func122.trans (congrArg some (by kernel_rfl))
 f46:=⟨Tryz.f157.name,by decide,Tryz.func157.trans (congrArg some (by kernel_rfl))⟩
 f47:=Tryz.func145.trans (congrArg some (by kernel_rfl))
 f48:=Tryz.func146.trans (congrArg some (by kernel_rfl))
 f49:=⟨Tryz.f158.name,by decide,Tryz.func158.trans (congrArg some (by kernel_rfl))⟩
 f50:=⟨Tryz.f159.name,by decide,Tryz.func159.trans (congrArg some (by kernel_rfl))⟩
 f57:=⟨Tryz.f168.name,by decide,Tryz.func168.trans (congrArg some (by kernel_rfl))⟩
 t0:=Tryz.underlying0
 a0:=Tryz.isAgg0
 z0:=Tryz.sizeOf0
 v0:=Tryz.zeroValue0
 t3:=Tryz.underlying3
 a3:=Tryz.isAgg3
 z3:=Tryz.sizeOf3
 v3:=Tryz.zeroValue3
 t4:=Tryz.underlying4
 a4:=Tryz.isAgg4
 z4:=Tryz.sizeOf4
 v4:=Tryz.zeroValue4
 t5:=Tryz.underlying5
 a5:=Tryz.isAgg5
 z5:=Tryz.sizeOf5
 v5:=Tryz.zeroValue5
 t9:=Tryz.underlying9
 a9:=Tryz.isAgg9
 z9:=Tryz.sizeOf9
 v9:=Tryz.zeroValue9
 t22:=Tryz.underlying35
 a22:=Tryz.isAgg35
 z22:=Tryz.sizeOf35
 v22:=Tryz.zeroValue35
 t25:=Tryz.underlying95
 a25:=Tryz.isAgg95
 z25:=Tryz.sizeOf95
 v25:=Tryz.zeroValue95
 t39:=Tryz.underlying134
 a39:=Tryz.isAgg134
 z39:=Tryz.sizeOf134
 v39:=Tryz.zeroValue134
 t45:=Tryz.underlying150
 a45:=Tryz.isAgg150
 z45:=Tryz.sizeOf150
 v45:=Tryz.zeroValue150
 t46:=Tryz.underlying151
 a46:=Tryz.isAgg151
 z46:=Tryz.sizeOf151
 v46:=Tryz.zeroValue151
 t50:=Tryz.underlying117
 a50:=Tryz.isAgg117
 z50:=Tryz.sizeOf117
 v50:=Tryz.zeroValue117
 t53:=Tryz.underlying157
 a53:=Tryz.isAgg157
 z53:=Tryz.sizeOf157
 v53:=Tryz.zeroValue157
 t55:=Tryz.underlying26
 a55:=Tryz.isAgg26
 z55:=Tryz.sizeOf26
 v55:=Tryz.zeroValue26
 t66:=Tryz.underlying171
 a66:=Tryz.isAgg171
 z66:=Tryz.sizeOf171
 v66:=Tryz.zeroValue171
 t70:=Tryz.underlying175
 a70:=Tryz.isAgg175
 z70:=Tryz.sizeOf175
 v70:=Tryz.zeroValue175
 t76:=Tryz.underlying187
 a76:=Tryz.isAgg187
 z76:=Tryz.sizeOf187
 v76:=Tryz.zeroValue187
 t77:=Tryz.underlying188
 a77:=Tryz.isAgg188
 z77:=Tryz.sizeOf188
 v77:=Tryz.zeroValue188 }
def Tryz.pdq109_ren : Go.Shelf.Ren:=⟨fun | 14=>109 | 20=>134 | 21=>135 | 22=>136 | 23=>137 | 24=>138 | 25=>139 | 26=>140 | 27=>141 | 46=>161 | 47=>145 | 48=>146 | 49=>162 | 50=>163 | 15=>96 | 57=>169 | 28=>121 | 29=>122 | n=>n,fun | 24=>108 | 22=>45 | 3=>3 | 25=>129 | 4=>4 | 0=>0 | 46=>151 | 45=>150 | 50=>117 | 66=>171 | 39=>134 | 55=>26 | 70=>175 | 76=>187 | 77=>188 | 53=>157 | 5=>5 | 9=>9 | n=>n,fun | n=>n⟩
theorem Tryz.pdq109 : Go.Proofs.SlLaysF0.n14 Tryz.prog Tryz.pdq109_ren:={
 mixed:=by kernel_rfl
 f14:=⟨Tryz.f109.name,by decide,Tryz.func109.trans (congrArg some (by kernel_rfl))⟩
 f15:=Tryz.func96.trans (congrArg some (by kernel_rfl))
 f20:=⟨Tryz.f134.name,by decide,Tryz.func134.trans (congrArg some (by kernel_rfl))⟩
 f21:=⟨Tryz.f135.name,by decide,Tryz.func135.trans (congrArg some (by kernel_rfl))⟩
 f22:=⟨Tryz.f136.name,by decide,Tryz.func136.trans (congrArg some (by kernel_rfl))⟩
 f23:=⟨Tryz.f137.name,by decide,Tryz.func137.trans (congrArg some (by kernel_rfl))⟩
 f24:=⟨Tryz.f138.name,by decide,Tryz.func138.trans (congrArg some (by kernel_rfl))⟩
 f25:=⟨Tryz.f139.name,by decide,Tryz.func139.trans (congrArg some (by kernel_rfl))⟩
 f26:=⟨Tryz.f140.name,by decide,Tryz.func140.trans (congrArg some (by kernel_rfl))⟩
 f27:=⟨Tryz.f141.name,by decide,Tryz.func141.trans (congrArg some (by kernel_rfl))⟩
 f28:=Tryz.func121.trans (congrArg some (by kernel_rfl))
 f29:=Tryz.func122.trans (congrArg some (by kernel_rfl))
 f46:=⟨Tryz.f161.name,by decide,Tryz.func161.trans (congrArg some (by kernel_rfl))⟩
 f47:=Tryz.func145.trans (congrArg some (by kernel_rfl))
 f48:=Tryz.func146.trans (congrArg some (by kernel_rfl))
 f49:=⟨Tryz.f162.name,by decide,Tryz.func162.trans (congrArg some (by kernel_rfl))⟩
 f50:=⟨Tryz.f163.name,by decide,Tryz.func163.trans (congrArg some (by kernel_rfl))⟩
 f57:=⟨Tryz.f169.name,by decide,Tryz.func169.trans (congrArg some (by kernel_rfl))⟩
 t0:=Tryz.underlying0
 a0:=Tryz.isAgg0
 z0:=Tryz.sizeOf0
 v0:=Tryz.zeroValue0
 t3:=Tryz.underlying3
 a3:=Tryz.isAgg3
 z3:=Tryz.sizeOf3
 v3:=Tryz.zeroValue3
 t4:=Tryz.underlying4
 a4:=Tryz.isAgg4
 z4:=Tryz.sizeOf4
 v4:=Tryz.zeroValue4
 t5:=Tryz.underlying5
 a5:=Tryz.isAgg5
 z5:=Tryz.sizeOf5
 v5:=Tryz.zeroValue5
 t9:=Tryz.underlying9
 a9:=Tryz.isAgg9
 z9:=Tryz.sizeOf9
 v9:=Tryz.zeroValue9
 t22:=Tryz.underlying45
 a22:=Tryz.isAgg45
 z22:=Tryz.sizeOf45
 v22:=Tryz.zeroValue45
 t25:=Tryz.underlying129
 a25:=Tryz.isAgg129
 z25:=Tryz.sizeOf129
 v25:=Tryz.zeroValue129
 t39:=Tryz.underlying134
 a39:=Tryz.isAgg134
 z39:=Tryz.sizeOf134
 v39:=Tryz.zeroValue134
 t45:=Tryz.underlying150
 a45:=Tryz.isAgg150
 z45:=Tryz.sizeOf150
 v45:=Tryz.zeroValue150
 t46:=Tryz.underlying151
 a46:=Tryz.isAgg151
 z46:=Tryz.sizeOf151
 v46:=Tryz.zeroValue151
 t50:=Tryz.underlying117
 a50:=Tryz.isAgg117
 z50:=Tryz.sizeOf117
 v50:=Tryz.zeroValue117
 t53:=Tryz.underlying157
 a53:=Tryz.isAgg157
 z53:=Tryz.sizeOf157
 v53:=Tryz.zeroValue157
 t55:=Tryz.underlying26
 a55:=Tryz.isAgg26
 z55:=Tryz.sizeOf26
 v55:=Tryz.zeroValue26
 t66:=Tryz.underlying171
 a66:=Tryz.isAgg171
 z66:=Tryz.sizeOf171
 v66:=Tryz.zeroValue171
 t70:=Tryz.underlying175
 a70:=Tryz.isAgg175
 z70:=Tryz.sizeOf175
 v70:=Tryz.zeroValue175
 t76:=Tryz.underlying187
 a76:=Tryz.isAgg187
 z76:=Tryz.sizeOf187
 v76:=Tryz.zeroValue187
 t77:=Tryz.underlying188
 a77:=Tryz.isAgg188
 z77:=Tryz.sizeOf188
 v77:=Tryz.zeroValue188 }
def Tryz.pdq124_ren : Go.Shelf.Ren:=⟨fun | 14=>124 | 20=>149 | 21=>150 | 22=>151 | 23=>152 | 24=>153 | 25=>154 | 26=>155 | 27=>156 | 46=>165 | 47=>145 | 48=>146 | 49=>166 | 50=>167 | 15=>96 | 57=>170 | 28=>121 | 29=>122 | n=>n,fun | 24=>120 | 22=>88 | 3=>3 | 25=>139 | 4=>4 | 0=>0 | 46=>151 | 45=>150 | 50=>117 | 66=>171 | 39=>134 | 55=>26 | 70=>175 | 76=>187 | 77=>188 | 53=>157 | 5=>5 | 9=>9 | n=>n,fun | n=>n⟩
theorem Tryz.pdq124 : Go.Proofs.SlLaysF0.n14 Tryz.prog Tryz.pdq124_ren:={
 mixed:=by kernel_rfl
 f14:=⟨Tryz.f124.name,by decide,Tryz.func124.trans (congrArg some (by kernel_rfl))⟩
 f15:=Tryz.func96.trans (congrArg some (by kernel_rfl))
 f20:=⟨Tryz.f149.name,by decide,Tryz.func149.trans (congrArg some (by kernel_rfl))⟩
 f21:=⟨Tryz.f150.name,by decide,Tryz.func150.trans (congrArg some (by kernel_rfl))⟩
 f22:=⟨Tryz.f151.name,by decide,Tryz.func151.trans (congrArg some (by kernel_rfl))⟩
 f23:=⟨Tryz.f152.name,by decide,Tryz.func152.trans (congrArg some (by kernel_rfl))⟩
 f24:=⟨Tryz.f153.name,by decide,Tryz.func153.trans (congrArg some (by kernel_rfl))⟩
 f25:=⟨Tryz.f154.name,by decide,Tryz.func154.trans (congrArg some (by kernel_rfl))⟩
 f26:=⟨Tryz.f155.name,by decide,Tryz.func155.trans (congrArg some (by kernel_rfl))⟩
 f27:=⟨Tryz.f156.name,by decide,Tryz.func156.trans (congrArg some (by kernel_rfl))⟩
 f28:=Tryz.func121.trans (congrArg some (by kernel_rfl))
 f29:=Tryz.func122.trans (congrArg some (by kernel_rfl))
 f46:=⟨Tryz.f165.name,by decide,Tryz.func165.trans (congrArg some (by kernel_rfl))⟩
 f47:=Tryz.func145.trans (congrArg some (by kernel_rfl))
 f48:=Tryz.func146.trans (congrArg some (by kernel_rfl))
 f49:=⟨Tryz.f166.name,by decide,Tryz.func166.trans (congrArg some (by kernel_rfl))⟩
 f50:=⟨Tryz.f167.name,by decide,Tryz.func167.trans (congrArg some (by kernel_rfl))⟩
 f57:=⟨Tryz.f170.name,by decide,Tryz.func170.trans (congrArg some (by kernel_rfl))⟩
 t0:=Tryz.underlying0
 a0:=Tryz.isAgg0
 z0:=Tryz.sizeOf0
 v0:=Tryz.zeroValue0
 t3:=Tryz.underlying3
 a3:=Tryz.isAgg3
 z3:=Tryz.sizeOf3
 v3:=Tryz.zeroValue3
 t4:=Tryz.underlying4
 a4:=Tryz.isAgg4
 z4:=Tryz.sizeOf4
 v4:=Tryz.zeroValue4
 t5:=Tryz.underlying5
 a5:=Tryz.isAgg5
 z5:=Tryz.sizeOf5
 v5:=Tryz.zeroValue5
 t9:=Tryz.underlying9
 a9:=Tryz.isAgg9
 z9:=Tryz.sizeOf9
 v9:=Tryz.zeroValue9
 t22:=Tryz.underlying88
 a22:=Tryz.isAgg88
 z22:=Tryz.sizeOf88
 v22:=Tryz.zeroValue88
 t25:=Tryz.underlying139
 a25:=Tryz.isAgg139
 z25:=Tryz.sizeOf139
 v25:=Tryz.zeroValue139
 t39:=Tryz.underlying134
 a39:=Tryz.isAgg134
 z39:=Tryz.sizeOf134
 v39:=Tryz.zeroValue134
 t45:=Tryz.underlying150
 a45:=Tryz.isAgg150
 z45:=Tryz.sizeOf150
 v45:=Tryz.zeroValue150
 t46:=Tryz.underlying151
 a46:=Tryz.isAgg151
 z46:=Tryz.sizeOf151
 v46:=Tryz.zeroValue151
 t50:=Tryz.underlying117
 a50:=Tryz.isAgg117
 z50:=Tryz.sizeOf117
 v50:=Tryz.zeroValue117
 t53:=Tryz.underlying157
 a53:=Tryz.isAgg157
 z53:=Tryz.sizeOf157
 v53:=Tryz.zeroValue157
 t55:=Tryz.underlying26
 a55:=Tryz.isAgg26
 z55:=Tryz.sizeOf26
 v55:=Tryz.zeroValue26
 t66:=Tryz.underlying171
 a66:=Tryz.isAgg171
 z66:=Tryz.sizeOf171
 v66:=Tryz.zeroValue171
 t70:=Tryz.underlying175
 a70:=Tryz.isAgg175
 z70:=Tryz.sizeOf175
 v70:=Tryz.zeroValue175
 t76:=Tryz.underlying187
 a76:=Tryz.isAgg187
 z76:=Tryz.sizeOf187
 v76:=Tryz.zeroValue187
 t77:=Tryz.underlying188
 a77:=Tryz.isAgg188
 z77:=Tryz.sizeOf188
 v77:=Tryz.zeroValue188 }
def Tryz.bits96_ren : Go.Shelf.Ren:=⟨fun | 15=>96 | 28=>121 | 29=>122 | n=>n,fun | 39=>134 | 3=>3 | 53=>157 | 55=>26 | 4=>4 | 5=>5 | 9=>9 | n=>n,fun | n=>n⟩
theorem Tryz.bits96 : Go.Proofs.SlLaysF0.n15 Tryz.prog Tryz.bits96_ren:={
 mixed:=by kernel_rfl
 f15:=Tryz.func96.trans (congrArg some (by kernel_rfl))
 f28:=Tryz.func121.trans (congrArg some (by kernel_rfl))
 f29:=Tryz.func122.trans (congrArg some (by kernel_rfl))
 t3:=Tryz.underlying3
 a3:=Tryz.isAgg3
 z3:=Tryz.sizeOf3
 v3:=Tryz.zeroValue3
 t4:=Tryz.underlying4
 a4:=Tryz.isAgg4
 z4:=Tryz.sizeOf4
 v4:=Tryz.zeroValue4
 t5:=Tryz.underlying5
 a5:=Tryz.isAgg5
 z5:=Tryz.sizeOf5
 v5:=Tryz.zeroValue5
 t9:=Tryz.underlying9
 a9:=Tryz.isAgg9
 z9:=Tryz.sizeOf9
 v9:=Tryz.zeroValue9
 t39:=Tryz.underlying134
 a39:=Tryz.isAgg134
 z39:=Tryz.sizeOf134
 v39:=Tryz.zeroValue134
 t53:=Tryz.underlying157
 a53:=Tryz.isAgg157
 z53:=Tryz.sizeOf157
 v53:=Tryz.zeroValue157
 t55:=Tryz.underlying26
 a55:=Tryz.isAgg26
 z55:=Tryz.sizeOf26
 v55:=Tryz.zeroValue26 }
end Go.Proofs
namespace Go.Ep
open Go.Shelf Go.RowKit Go.Lib Go.Sort Go.Proofs
theorem SortLaw.of{α:Type}[Inhabited α]{P:Program}{f g:FuncId}{k:Nat}{enc:α->List Value}{lt:α->α->Bool}{cf:α->α->Int}(hO:SWO (ltOf cf))(hlt:∀ x y,ltOf cf x y=lt x y)(hk:∀ x,(enc x).length=k)
  (hnil:∀ w:World,Calls P f #[.slice none 0 0,.func (.func g) #[] #[]] w fun e w'=>e=.returned (.tuple #[])/\Go.RowKit.Below w.heap.size w w')
  (hrow:∀ (blk off cap:Nat) (d:Array α) (w:World),HoldsK enc k w blk off d->blk < w.heap.size->d.size < 4611686018427387904 ->
   Calls P f #[.slice (some ⟨blk,off,none⟩) d.size cap,.func (.func g) #[] #[]] w fun e w'=>e=.returned (.tuple #[])/\∃ n os,w'=sortWorldK enc k w blk off n (pdq (ltOf cf) d 0 d.size (Lib.bitLen d.size) true true) os):SortLaw P f g k enc lt:=by
 refine⟨hnil,fun w blk cap l T cur hh hlc hcs hlen hcells=>?_⟩;have hblk:blk < w.heap.size:=(Array.getElem?_eq_some_iff.1 hh).1;have hH:HoldsK enc k w blk 0 l.toArray:=by
  intro j hj;rw[size_flatK] at hj;have hj':j < l.length*k:=by simpa using hj
  obtain⟨hk0,h1,h2,h3⟩:=UH hj'
  constructor
  ·rw[Nat.zero_add,zj hh];show _=some ((flatK enc k l.toArray)[j]!);rw[get_flatK _ _ _ _ hj];have hx:l[j / k]?=some l[j / k]:=List.getElem?_eq_getElem h1;have hlk:(enc l[j / k]).length=k:=hk _;have hu:(enc l[j / k])[j % k]?=some ((enc l[j / k])[j % k]'(by omega)):=List.getElem?_eq_getElem (by omega);have:=hcells (j / k) _ (j % k) _ hx hu;rw[h3] at this;rw[this];have e1:(l.toArray)[j / k]! = l[j / k]:=by simp[h1]
   rw[e1];simp[hu]
  ·simp[World.frozen?,hh]
 have hd:l.toArray.size=l.length:=by simp
 have hcall:=hrow blk 0 cap l.toArray w hH hblk (by simpa using hlen);rw[hd] at hcall;refine hcall.mono fun e w' ⟨he,n,os,hw⟩=>⟨he,?_⟩
 have hp:=pdq_sorts (ltOf cf) hO l.toArray 0 l.toArray.size (Lib.bitLen l.toArray.size) true true (Nat.zero_le _) (Nat.le_refl _) (Or.inl rfl);rw[hd] at hp
 generalize pdq (ltOf cf) l.toArray 0 l.length (Lib.bitLen l.length) true true=d' at hp hw
 obtain⟨⟨hsz,_,hperm⟩,hsort⟩:=hp;have hsz':d'.size=l.length:=by simpa using hsz
 have hp':d'.toList.Perm l:=by
  have e1:(d'.extract 0 l.length).toList=d'.toList:=by rw[<- hsz'];simp
  have e2:(l.toArray.extract 0 l.length).toList=l:=by simp
  rw[e1,e2] at hperm;exact hperm
 have hmod:∀ b,b < w.heap.size->(sortWorldK enc k w blk 0 n d' os).heap[b]?=if blk=b then (w.heap[b]?).map (onCells (putCells id 0 (flatK enc k d'))) else w.heap[b]?:=by
  intro b hb;have hb2:b < (putRowK enc k (Sort.ahead w n) blk 0 d').heap.size:=by simpa[putRowK,Sort.ahead] using hb
  show(grow (putRowK enc k (Sort.ahead w n) blk 0 d') os).heap[b]?=_;rw[Sort.heap_grow_old _ _ hb2];show((w.heap.modify blk (onCells (putCells id 0 (flatK enc k d')))))[b]?=_;rw[Array.getElem?_modify]
 subst hw;refine⟨d'.toList,(putCells id 0 (flatK enc k d') cur.toArray).toList,hp',?_,?_,?_,?_,rfl,rfl,rfl,?_,?_⟩
 ·rw[List.pairwise_iff_getElem];intro i j hi hj hij;have:=hsort i j (Nat.zero_le _) hij (by simpa[hsz'] using hj);rw[hlt] at this;have hi':i < d'.size:=by simpa using hi
  have hj':j < d'.size:=by simpa using hj
  simpa[hi',hj'] using this
 ·rw[hmod blk hblk,if_pos rfl,hh];simp[onCells]
 ·simp[putCells]
 ·intro i x j u hi hu;have hi':i < l.length:=by rw[<- hsz'];have:=(List.getElem?_eq_some_iff.1 hi).1;simpa using this
  have hj:j < k:=by rw[<- hk x];exact(List.getElem?_eq_some_iff.1 hu).1
  have hlt2:i*k+j < l.length*k:=ZZ hi' hj;have hcl:l.length*k<=cur.length:=by rw[hcs];exact Nat.mul_le_mul_right k hlc
  have hin:i*k+j < d'.size*k:=by rw[hsz'];exact hlt2
  have hget:(flatK enc k d')[i*k+j]! = u:=by
   rw[get_flatK _ _ _ _ hin];have hk0:0 < k:=by omega
   have e1:(i*k+j) / k=i:=by rw[Nat.mul_comm,Nat.mul_add_div hk0,Nat.div_eq_of_lt hj];omega
   have e2:(i*k+j) % k=j:=by rw[Nat.mul_comm,Nat.mul_add_mod,Nat.mod_eq_of_lt hj]
   rw[e1,e2];have e3:d'[i]! = x:=by
    obtain⟨h1,h2⟩:=List.getElem?_eq_some_iff.1 hi;have h1':i < d'.size:=by simpa using h1
    rw[getElem!_pos d' i h1'];simpa using h2
   rw[e3];simp[hu]
  have hc2:i*k+j < cur.length:=by omega
  simp only[putCells,Array.toList_mapIdx,List.getElem?_mapIdx];rw[List.getElem?_eq_getElem hc2];simp only[Option.map_some,id];rw[if_pos ⟨Nat.zero_le _,by rw[size_flatK];omega⟩,Nat.sub_zero,hget]
 ·show w.heap.size<=(grow (putRowK enc k (Sort.ahead w n) blk 0 d') os).heap.size;simp[grow,putRowK,Sort.ahead]
 ·intro b hb hne;rw[hmod b hb,if_neg (Ne.symm hne)]
end Go.Ep
namespace Go.Proofs
set_option linter.unusedSimpArgs false
set_option linter.unusedVariables false
open Go.Shelf Go.RowKit Go.Lib Go.Sort Go.Ep
theorem xWa(a:Int)(W:World):Calls Tryz.prog 106 #[.int .u16 a] W fun e w'=>e=.returned (.bool false)/\w'=W:=by
 go_enter Tryz.func106,Tryz.ntmps106
 go_wp2
 go_ret
 exact⟨by simp,rfl⟩
theorem xXa(a b:Int)(W:World):Calls Tryz.prog 87 #[.int .u16 a,.int .u16 b] W fun e w'=>e=.returned (.int .i64 (Lib.compareInt a b))/\w'=W:=by
 unfold Lib.compareInt
 by_cases h1:a < b
 ·go_enter Tryz.func87,Tryz.ntmps87
  go_wp2_with (go_at_call 106;refine(xWa _ _).mono ?_;rintro e w' ⟨rfl,rfl⟩)
  go_ret
  exact⟨by simp[h1],rfl⟩
 ·by_cases h2:b < a
  ·go_enter Tryz.func87,Tryz.ntmps87
   go_wp2_with (go_at_call 106;refine(xWa _ _).mono ?_;rintro e w' ⟨rfl,rfl⟩)
   go_ret
   exact⟨by simp[h1,h2],rfl⟩
  ·go_enter Tryz.func87,Tryz.ntmps87
   go_wp2_with (go_at_call 106;refine(xWa _ _).mono ?_;rintro e w' ⟨rfl,rfl⟩)
   go_ret
   exact⟨by simp[h1,h2],rfl⟩
theorem xYa(a:Int)(W:World):Calls Tryz.prog 103 #[.int .u64 a] W fun e w'=>e=.returned (.bool false)/\w'=W:=by
 go_enter Tryz.func103,Tryz.ntmps103
 go_wp2
 go_ret
 exact⟨by simp,rfl⟩
theorem xZa(a b:Int)(W:World):Calls Tryz.prog 82 #[.int .u64 a,.int .u64 b] W fun e w'=>e=.returned (.int .i64 (Lib.compareInt a b))/\w'=W:=by
 unfold Lib.compareInt
 by_cases h1:a < b
 ·go_enter Tryz.func82,Tryz.ntmps82
  go_wp2_with (go_at_call 103;refine(xYa _ _).mono ?_;rintro e w' ⟨rfl,rfl⟩)
  go_ret
  exact⟨by simp[h1],rfl⟩
 ·by_cases h2:b < a
  ·go_enter Tryz.func82,Tryz.ntmps82
   go_wp2_with (go_at_call 103;refine(xYa _ _).mono ?_;rintro e w' ⟨rfl,rfl⟩)
   go_ret
   exact⟨by simp[h1,h2],rfl⟩
  ·go_enter Tryz.func82,Tryz.ntmps82
   go_wp2_with (go_at_call 103;refine(xYa _ _).mono ?_;rintro e w' ⟨rfl,rfl⟩)
   go_ret
   exact⟨by simp[h1,h2],rfl⟩
theorem xaa(W:World)(a b:Array Obj)(q:Nat):grow ((grow W a).drewN q) b=grow (W.drewN q) (a++b):=by
 show grow (grow (W.drewN q) a) b=_;rw[grow_grow]
def UV(a b c d:Int):Int:=if Lib.compareInt a c≠0 then Lib.compareInt a c else Lib.compareInt b d
theorem yfa(a b c d:Int)(W:World):Calls Tryz.prog 57 #[.agg #[.int .u16 a,.int .u64 b],.agg #[.int .u16 c,.int .u64 d]] W fun e w'=>e=.returned (.int .i64 (UV a b c d))/\∃ q os',w'=grow (W.drewN q) os':=by
 have c1:=fun W'=>xXa a c W'
 have c2:=fun W'=>xZa b d W'
 unfold UV
 generalize Lib.compareInt a c=r1 at c1 ⊢
 generalize Lib.compareInt b d=r2 at c2 ⊢
 by_cases h:r1=0
 ·subst h
  go_enter Tryz.func57,Tryz.ntmps57
  go_wp2_with (first | (go_at_call 87;refine(c1 _).mono ?_;rintro e w' ⟨rfl,rfl⟩) | (go_at_call 82;refine(c2 _).mono ?_;rintro e w' ⟨rfl,rfl⟩))
  go_ret
  exact⟨by simp,0,_,by rw[alloc_eq_grow,alloc_eq_grow,grow_grow];rfl⟩
 ·go_enter Tryz.func57,Tryz.ntmps57
  go_wp2_with (first | (go_at_call 87;refine(c1 _).mono ?_;rintro e w' ⟨rfl,rfl⟩) | (go_at_call 82;refine(c2 _).mono ?_;rintro e w' ⟨rfl,rfl⟩))
  go_ret
  exact⟨by simp[h],0,_,by rw[alloc_eq_grow,alloc_eq_grow,grow_grow];rfl⟩
structure RawTEvent where
 dot_dev_:Int
 dot_n_:Int
 c2:Value
 h2:c2.oneCell'=true
 c3:Value
 h3:c3.oneCell'=true
 c4:Value
 h4:c4.oneCell'=true
 c5:Value
 h5:c5.oneCell'=true
 c6:Value
 h6:c6.oneCell'=true
def RawTEvent.v(r:RawTEvent):List Value:=[.int .u16 r.dot_dev_,.int .u64 r.dot_n_,r.c2,r.c3,r.c4,r.c5,r.c6]
theorem RawTEvent.v1(r:RawTEvent):∀ u∈r.v,u.oneCell'=true:=by
 intro u hu;simp only[RawTEvent.v,List.mem_cons,List.not_mem_nil,or_false] at hu;rcases hu with rfl | rfl | rfl | rfl | rfl | rfl | rfl
 ·rfl
 ·rfl
 ·exact r.h2
 ·exact r.h3
 ·exact r.h4
 ·exact r.h5
 ·exact r.h6
def RawTEvent.R(x:EV)(r:RawTEvent):Prop:=r.dot_dev_=x.dot.dev/\r.dot_n_=x.dot.n
theorem RawTEvent.raw(w:World)(S:Nat->Prop)(x:EV)(us:List Value)(hl:us.length=7)(h:∀ (j:Nat) (d:DV) (u:Value),(EV.e x)[j]?=some d->us[j]?=some u->DRd w S d u):∃ r:RawTEvent,r.v=us/\RawTEvent.R x r:=by
 match us,hl with
 | [u0,u1,u2,u3,u4,u5,u6],_=>
  refine⟨⟨x.dot.dev,x.dot.n,u2,(h 2 _ u2 rfl rfl).one,u3,(h 3 _ u3 rfl rfl).one,u4,(h 4 _ u4 rfl rfl).one,u5,(h 5 _ u5 rfl rfl).one,u6,(h 6 _ u6 rfl rfl).one⟩,?_,⟨rfl,rfl⟩⟩;have e0:=h 0 _ u0 rfl rfl
  cases e0
  have e1:=h 1 _ u1 rfl rfl
  cases e1
  rfl
def cf72(x y:RawTEvent):Int:=UV x.dot_dev_ x.dot_n_ y.dot_dev_ y.dot_n_
theorem callcf72(x y:RawTEvent)(W:World):Calls Tryz.prog 73 #[.agg #[.int .u16 x.dot_dev_,.int .u64 x.dot_n_,x.c2,x.c3,x.c4,x.c5,x.c6],.agg #[.int .u16 y.dot_dev_,.int .u64 y.dot_n_,y.c2,y.c3,y.c4,y.c5,y.c6]] W fun e w'=>e=.returned (.int .i64 (cf72 x y))/\∃ q os',w'=grow (W.drewN q) os':=by
 have c1:=fun W'=>yfa x.dot_dev_ x.dot_n_ y.dot_dev_ y.dot_n_ W'
 unfold cf72
 generalize UV x.dot_dev_ x.dot_n_ y.dot_dev_ y.dot_n_=r1 at c1 ⊢
 go_enter Tryz.func73,Tryz.ntmps73
 go_wp2_with (go_at_call 57;refine(c1 _).mono ?_;rintro e w' ⟨rfl,q,os',rfl⟩)
 go_ret
 exact⟨rfl,q,_,by rw[alloc_eq_grow,alloc_eq_grow,grow_grow,xaa]⟩
theorem zta(x y:RawTEvent):ltOf cf72 x y=(fun x y:RawTEvent=>decide (x.dot_dev_ < y.dot_dev_)||(decide (x.dot_dev_=y.dot_dev_)&&decide (x.dot_n_ < y.dot_n_))) x y:=by
 unfold ltOf cf72 UV Lib.compareInt ;rw[Bool.eq_iff_iff];simp only[decide_eq_true_eq,Bool.or_eq_true,Bool.and_eq_true]
 split <;> (repeat' split) <;> omega
theorem xba : SWO (ltOf cf72) where
 irrefl x:=by rw[zta];simp[]
 trans x y z h1 h2:=by rw[zta] at *;simp[] at *;omega
 ntrans x y z h1 h2:=by rw[zta] at *;simp[] at *;omega
instance inhcf72 : Inhabited RawTEvent:=⟨⟨0,0,.int .u64 0,rfl,.int .u64 0,rfl,.int .u64 0,rfl,.int .u64 0,rfl,.int .u64 0,rfl⟩⟩
theorem layscf72(blk off size:Nat)(w:World):CmpLays Tryz.prog 73 #[] RawTEvent.v 7 cf72 blk off size w:=fun _ _ _ _ x y=>callcf72 x y _
set_option maxHeartbeats 2000000 in
set_option maxRecDepth 100000 in
theorem xca(blk off cap:Nat)(d:Array RawTEvent)(w:World)(hH:HoldsK RawTEvent.v 7 w blk off d)(hblk:blk < w.heap.size)(hsz:d.size < 4611686018427387904) :
  Calls Tryz.prog 72 #[.slice (some ⟨blk,off,none⟩) d.size cap,.func (.func 73) #[] #[]] w fun e w'=>e=.returned (.tuple #[])/\∃ n os,w'=sortWorldK RawTEvent.v 7 w blk off n (pdq (ltOf cf72) d 0 d.size (Lib.bitLen d.size) true true) os:=by
 have eg:∀ args w,(callFunc 73 args).run Tryz.prog w=.ok (.enter 73 args) w:=Tryz.call73;have e14:=Tryz.call95;have e15:=Tryz.call96;have hlim:Lib.bitLen d.size < 4611686018427387904:=Nat.lt_of_le_of_lt (Lib.bitLen_le d.size 62 (by omega) (by omega)) (by omega);have hp:=AnyQ.pdqsortCmpFunc_all Tryz.pdq95 7 Tryz.isAgg37 Tryz.sizeOf37 RawTEvent.v cf72 73 #[] xba blk off cap d w eg (layscf72 blk off d.size w) ⟨fun _=>rfl,RawTEvent.v1,hH,hblk⟩ (d.size+1) 0 d.size (Lib.bitLen d.size) d w (by omega) rfl (SWK.start hH) (Nat.zero_le _) (Nat.le_refl _) hsz hlim (Or.inl rfl)
 change Calls Tryz.prog 95 _ _ _ at hp
 have hl:Calls Tryz.prog 96 #[.int .u64 (d.size:Int)] w fun e w'=>e=.returned (.int .i64 (Lib.bitLen d.size:Nat))/\w'=w:=by
  have h:=Any.bits_Len (SlLaysF0.n15.bits Tryz.bits96) (d.size:Int) w (by omega) (by omega)
  rwa [Int.toNat_natCast] at h
 have wr:IntKind.u64.wrap (d.size:Int)=d.size:=by simp[IntKind.wrap,IntKind.bits,IntKind.signed];omega
 clear hH
 go_enter Tryz.func72,Tryz.ntmps72
 go_wp2_with (first | (go_at_call 96;refine hl.mono ?_;rintro e w' ⟨rfl,rfl⟩) | (go_at_call 95;refine hp.mono ?_;rintro e w' ⟨rfl,n,os,rfl⟩))
 go_end0
 exact⟨rfl,n,os,rfl⟩
theorem yga(w:World):Calls Tryz.prog 72 #[.slice none 0 0,.func (.func 73) #[] #[]] w fun e w'=>e=.returned (.tuple #[])/\Go.RowKit.Below w.heap.size w w':=by
 have e14:=Tryz.call95;have e15:=Tryz.call96;have hp:=fun lim W=>AnyF.pdqsortCmpFunc_none Tryz.pdq95 none 0 lim (.func (.func 73) #[] #[]) W
 have hl:∀ W,Calls Tryz.prog 96 #[.int .u64 0] W fun e w'=>e=.returned (.int .i64 (Lib.bitLen 0:Nat))/\w'=W:=fun W=>by
  have h:=Any.bits_Len (SlLaysF0.n15.bits Tryz.bits96) 0 W (by omega) (by omega);exact h
 go_enter Tryz.func72,Tryz.ntmps72
 go_wp2_with (first | (go_at_call 96;refine(hl _).mono ?_;rintro e w' ⟨rfl,rfl⟩) | (go_at_call 95;refine(hp _ _).mono ?_;rintro e w' ⟨rfl,rfl⟩))
 go_end0
 exact⟨rfl,Go.RowKit.Below.refl _ _⟩
theorem zua : SortLaw Tryz.prog 72 73 7 RawTEvent.v (fun x y:RawTEvent=>decide (x.dot_dev_ < y.dot_dev_)||(decide (x.dot_dev_=y.dot_dev_)&&decide (x.dot_n_ < y.dot_n_))):=SortLaw.of xba zta (fun _=>rfl) yga (fun blk off cap d w hH hblk hsz=>xca blk off cap d w hH hblk hsz)
theorem rlt72(x y:EV)(r r':RawTEvent)(h1:RawTEvent.R x r)(h2:RawTEvent.R y r'):((fun x y:RawTEvent=>decide (x.dot_dev_ < y.dot_dev_)||(decide (x.dot_dev_=y.dot_dev_)&&decide (x.dot_n_ < y.dot_n_)))) r r'=Zx x y:=by simp only[RawTEvent.R] at h1 h2;simp[h1,h2,Zx]
def cf85(x y:DT):Int:=if Lib.compareInt x.dev y.dev≠0 then Lib.compareInt x.dev y.dev else Lib.compareInt x.n y.n
theorem callcf85(x y:DT)(W:World):Calls Tryz.prog 57 #[.agg #[.int .u16 x.dev,.int .u64 x.n],.agg #[.int .u16 y.dev,.int .u64 y.n]] W fun e w'=>e=.returned (.int .i64 (cf85 x y))/\∃ q os',w'=grow (W.drewN q) os':=by
 have c1:=fun W'=>xXa x.dev y.dev W'
 have c2:=fun W'=>xZa x.n y.n W'
 unfold cf85
 generalize Lib.compareInt x.dev y.dev=r1 at c1 ⊢
 generalize Lib.compareInt x.n y.n=r2 at c2 ⊢
 by_cases h:r1=0
 ·subst h
  go_enter Tryz.func57,Tryz.ntmps57
  go_wp2_with (first | (go_at_call 87;refine(c1 _).mono ?_;rintro e w' ⟨rfl,rfl⟩) | (go_at_call 82;refine(c2 _).mono ?_;rintro e w' ⟨rfl,rfl⟩))
  go_ret
  exact⟨by simp,0,_,by rw[alloc_eq_grow,alloc_eq_grow,grow_grow];rfl⟩
 ·go_enter Tryz.func57,Tryz.ntmps57
  go_wp2_with (first | (go_at_call 87;refine(c1 _).mono ?_;rintro e w' ⟨rfl,rfl⟩) | (go_at_call 82;refine(c2 _).mono ?_;rintro e w' ⟨rfl,rfl⟩))
  go_ret
  exact⟨by simp[h],0,_,by rw[alloc_eq_grow,alloc_eq_grow,grow_grow];rfl⟩
theorem zva(x y:DT):ltOf cf85 x y=zT x y:=by
 unfold ltOf cf85 Lib.compareInt zT;rw[Bool.eq_iff_iff];simp only[decide_eq_true_eq,Bool.or_eq_true,Bool.and_eq_true]
 split <;> (repeat' split) <;> omega
theorem xda : SWO (ltOf cf85) where
 irrefl x:=by rw[zva];simp[zT]
 trans x y z h1 h2:=by rw[zva] at *;simp[zT] at *;omega
 ntrans x y z h1 h2:=by rw[zva] at *;simp[zT] at *;omega
instance inhcf85 : Inhabited DT:=⟨⟨0,0⟩⟩
theorem layscf85(blk off size:Nat)(w:World):CmpLays Tryz.prog 57 #[] DT.v 2 cf85 blk off size w:=fun _ _ _ _ x y=>callcf85 x y _
set_option maxHeartbeats 2000000 in
set_option maxRecDepth 100000 in
theorem xea(blk off cap:Nat)(d:Array DT)(w:World)(hH:HoldsK DT.v 2 w blk off d)(hblk:blk < w.heap.size)(hsz:d.size < 4611686018427387904) :
  Calls Tryz.prog 85 #[.slice (some ⟨blk,off,none⟩) d.size cap,.func (.func 57) #[] #[]] w fun e w'=>e=.returned (.tuple #[])/\∃ n os,w'=sortWorldK DT.v 2 w blk off n (pdq (ltOf cf85) d 0 d.size (Lib.bitLen d.size) true true) os:=by
 have eg:∀ args w,(callFunc 57 args).run Tryz.prog w=.ok (.enter 57 args) w:=Tryz.call57;have e14:=Tryz.call105;have e15:=Tryz.call96;have hlim:Lib.bitLen d.size < 4611686018427387904:=Nat.lt_of_le_of_lt (Lib.bitLen_le d.size 62 (by omega) (by omega)) (by omega);have hp:=AnyQ.pdqsortCmpFunc_all Tryz.pdq105 2 Tryz.isAgg34 Tryz.sizeOf34 DT.v cf85 57 #[] xda blk off cap d w eg (layscf85 blk off d.size w) ⟨fun _=>rfl,DT.v1,hH,hblk⟩ (d.size+1) 0 d.size (Lib.bitLen d.size) d w (by omega) rfl (SWK.start hH) (Nat.zero_le _) (Nat.le_refl _) hsz hlim (Or.inl rfl)
 change Calls Tryz.prog 105 _ _ _ at hp
 have hl:Calls Tryz.prog 96 #[.int .u64 (d.size:Int)] w fun e w'=>e=.returned (.int .i64 (Lib.bitLen d.size:Nat))/\w'=w:=by
  have h:=Any.bits_Len (SlLaysF0.n15.bits Tryz.bits96) (d.size:Int) w (by omega) (by omega)
  rwa [Int.toNat_natCast] at h
 have wr:IntKind.u64.wrap (d.size:Int)=d.size:=by simp[IntKind.wrap,IntKind.bits,IntKind.signed];omega
 clear hH
 go_enter Tryz.func85,Tryz.ntmps85
 go_wp2_with (first | (go_at_call 96;refine hl.mono ?_;rintro e w' ⟨rfl,rfl⟩) | (go_at_call 105;refine hp.mono ?_;rintro e w' ⟨rfl,n,os,rfl⟩))
 go_end0
 exact⟨rfl,n,os,rfl⟩
theorem yha(w:World):Calls Tryz.prog 85 #[.slice none 0 0,.func (.func 57) #[] #[]] w fun e w'=>e=.returned (.tuple #[])/\Go.RowKit.Below w.heap.size w w':=by
 have e14:=Tryz.call105;have e15:=Tryz.call96;have hp:=fun lim W=>AnyF.pdqsortCmpFunc_none Tryz.pdq105 none 0 lim (.func (.func 57) #[] #[]) W
 have hl:∀ W,Calls Tryz.prog 96 #[.int .u64 0] W fun e w'=>e=.returned (.int .i64 (Lib.bitLen 0:Nat))/\w'=W:=fun W=>by
  have h:=Any.bits_Len (SlLaysF0.n15.bits Tryz.bits96) 0 W (by omega) (by omega);exact h
 go_enter Tryz.func85,Tryz.ntmps85
 go_wp2_with (first | (go_at_call 96;refine(hl _).mono ?_;rintro e w' ⟨rfl,rfl⟩) | (go_at_call 105;refine(hp _ _).mono ?_;rintro e w' ⟨rfl,rfl⟩))
 go_end0
 exact⟨rfl,Go.RowKit.Below.refl _ _⟩
theorem srt85_57 : SortLaw Tryz.prog 85 57 2 DT.v zT:=SortLaw.of xda zva (fun _=>rfl) yha (fun blk off cap d w hH hblk hsz=>xea blk off cap d w hH hblk hsz)
structure RawTPart where
 dev_:Int
 c1:Value
 h1:c1.oneCell'=true
def RawTPart.v(r:RawTPart):List Value:=[.int .u16 r.dev_,r.c1]
theorem RawTPart.v1(r:RawTPart):∀ u∈r.v,u.oneCell'=true:=by
 intro u hu;simp only[RawTPart.v,List.mem_cons,List.not_mem_nil,or_false] at hu;rcases hu with rfl | rfl
 ·rfl
 ·exact r.h1
def RawTPart.R(x:PT)(r:RawTPart):Prop:=r.dev_=x.dev
theorem RawTPart.raw(w:World)(S:Nat->Prop)(x:PT)(us:List Value)(hl:us.length=2)(h:∀ (j:Nat) (d:DV) (u:Value),(PT.e x)[j]?=some d->us[j]?=some u->DRd w S d u):∃ r:RawTPart,r.v=us/\RawTPart.R x r:=by
 match us,hl with
 | [u0,u1],_=>
  refine⟨⟨x.dev,u1,(h 1 _ u1 rfl rfl).one⟩,?_,rfl⟩;have e0:=h 0 _ u0 rfl rfl
  cases e0
  rfl
def cf91(x y:RawTPart):Int:=Lib.compareInt x.dev_ y.dev_
theorem callcf91(x y:RawTPart)(W:World):Calls Tryz.prog 92 #[.agg #[.int .u16 x.dev_,x.c1],.agg #[.int .u16 y.dev_,y.c1]] W fun e w'=>e=.returned (.int .i64 (cf91 x y))/\∃ q os',w'=grow (W.drewN q) os':=by
 have c1:=fun W'=>xXa x.dev_ y.dev_ W'
 unfold cf91
 generalize Lib.compareInt x.dev_ y.dev_=r1 at c1 ⊢
 go_enter Tryz.func92,Tryz.ntmps92
 go_wp2_with (go_at_call 87;refine(c1 _).mono ?_;rintro e w' ⟨rfl,rfl⟩)
 go_ret
 exact⟨rfl,0,_,by rw[alloc_eq_grow,alloc_eq_grow,grow_grow];rfl⟩
theorem zwa(x y:RawTPart):ltOf cf91 x y=(fun x y:RawTPart=>decide (x.dev_ < y.dev_)) x y:=by
 unfold ltOf cf91 Lib.compareInt ;rw[Bool.eq_iff_iff];simp only[decide_eq_true_eq,Bool.or_eq_true,Bool.and_eq_true]
 split <;> (repeat' split) <;> omega
theorem xfa : SWO (ltOf cf91) where
 irrefl x:=by rw[zwa];simp[]
 trans x y z h1 h2:=by rw[zwa] at *;simp[] at *;omega
 ntrans x y z h1 h2:=by rw[zwa] at *;simp[] at *;omega
instance inhcf91 : Inhabited RawTPart:=⟨⟨0,.int .u64 0,rfl⟩⟩
theorem layscf91(blk off size:Nat)(w:World):CmpLays Tryz.prog 92 #[] RawTPart.v 2 cf91 blk off size w:=fun _ _ _ _ x y=>callcf91 x y _
set_option maxHeartbeats 2000000 in
set_option maxRecDepth 100000 in
theorem xga(blk off cap:Nat)(d:Array RawTPart)(w:World)(hH:HoldsK RawTPart.v 2 w blk off d)(hblk:blk < w.heap.size)(hsz:d.size < 4611686018427387904) :
  Calls Tryz.prog 91 #[.slice (some ⟨blk,off,none⟩) d.size cap,.func (.func 92) #[] #[]] w fun e w'=>e=.returned (.tuple #[])/\∃ n os,w'=sortWorldK RawTPart.v 2 w blk off n (pdq (ltOf cf91) d 0 d.size (Lib.bitLen d.size) true true) os:=by
 have eg:∀ args w,(callFunc 92 args).run Tryz.prog w=.ok (.enter 92 args) w:=Tryz.call92;have e14:=Tryz.call109;have e15:=Tryz.call96;have hlim:Lib.bitLen d.size < 4611686018427387904:=Nat.lt_of_le_of_lt (Lib.bitLen_le d.size 62 (by omega) (by omega)) (by omega);have hp:=AnyQ.pdqsortCmpFunc_all Tryz.pdq109 2 Tryz.isAgg108 Tryz.sizeOf108 RawTPart.v cf91 92 #[] xfa blk off cap d w eg (layscf91 blk off d.size w) ⟨fun _=>rfl,RawTPart.v1,hH,hblk⟩ (d.size+1) 0 d.size (Lib.bitLen d.size) d w (by omega) rfl (SWK.start hH) (Nat.zero_le _) (Nat.le_refl _) hsz hlim (Or.inl rfl)
 change Calls Tryz.prog 109 _ _ _ at hp
 have hl:Calls Tryz.prog 96 #[.int .u64 (d.size:Int)] w fun e w'=>e=.returned (.int .i64 (Lib.bitLen d.size:Nat))/\w'=w:=by
  have h:=Any.bits_Len (SlLaysF0.n15.bits Tryz.bits96) (d.size:Int) w (by omega) (by omega)
  rwa [Int.toNat_natCast] at h
 have wr:IntKind.u64.wrap (d.size:Int)=d.size:=by simp[IntKind.wrap,IntKind.bits,IntKind.signed];omega
 clear hH
 go_enter Tryz.func91,Tryz.ntmps91
 go_wp2_with (first | (go_at_call 96;refine hl.mono ?_;rintro e w' ⟨rfl,rfl⟩) | (go_at_call 109;refine hp.mono ?_;rintro e w' ⟨rfl,n,os,rfl⟩))
 go_end0
 exact⟨rfl,n,os,rfl⟩
theorem yia(w:World):Calls Tryz.prog 91 #[.slice none 0 0,.func (.func 92) #[] #[]] w fun e w'=>e=.returned (.tuple #[])/\Go.RowKit.Below w.heap.size w w':=by
 have e14:=Tryz.call109;have e15:=Tryz.call96;have hp:=fun lim W=>AnyF.pdqsortCmpFunc_none Tryz.pdq109 none 0 lim (.func (.func 92) #[] #[]) W
 have hl:∀ W,Calls Tryz.prog 96 #[.int .u64 0] W fun e w'=>e=.returned (.int .i64 (Lib.bitLen 0:Nat))/\w'=W:=fun W=>by
  have h:=Any.bits_Len (SlLaysF0.n15.bits Tryz.bits96) 0 W (by omega) (by omega);exact h
 go_enter Tryz.func91,Tryz.ntmps91
 go_wp2_with (first | (go_at_call 96;refine(hl _).mono ?_;rintro e w' ⟨rfl,rfl⟩) | (go_at_call 109;refine(hp _ _).mono ?_;rintro e w' ⟨rfl,rfl⟩))
 go_end0
 exact⟨rfl,Go.RowKit.Below.refl _ _⟩
theorem srt91_92 : SortLaw Tryz.prog 91 92 2 RawTPart.v (fun x y:RawTPart=>decide (x.dev_ < y.dev_)):=SortLaw.of xfa zwa (fun _=>rfl) yia (fun blk off cap d w hH hblk hsz=>xga blk off cap d w hH hblk hsz)
theorem rlt91(x y:PT)(r r':RawTPart)(h1:RawTPart.R x r)(h2:RawTPart.R y r'):((fun x y:RawTPart=>decide (x.dev_ < y.dev_))) r r'=jm x y:=by simp only[RawTPart.R] at h1 h2;simp[h1,h2,jm]
def QD(x y:RN):Int:=Lib.compareInt x.lo y.lo
theorem xha(x y:RN)(W:World):Calls Tryz.prog 102 #[.agg #[.int .u64 x.lo,.int .u64 x.hi],.agg #[.int .u64 y.lo,.int .u64 y.hi]] W fun e w'=>e=.returned (.int .i64 (QD x y))/\∃ q os',w'=grow (W.drewN q) os':=by
 have c1:=fun W'=>xZa x.lo y.lo W'
 unfold QD
 generalize Lib.compareInt x.lo y.lo=r1 at c1 ⊢
 go_enter Tryz.func102,Tryz.ntmps102
 go_wp2_with (go_at_call 82;refine(c1 _).mono ?_;rintro e w' ⟨rfl,rfl⟩)
 go_ret
 exact⟨rfl,0,_,by rw[alloc_eq_grow,alloc_eq_grow,grow_grow];rfl⟩
theorem JZ(x y:RN):ltOf QD x y=jU x y:=by
 unfold ltOf QD Lib.compareInt jU;rw[Bool.eq_iff_iff];simp only[decide_eq_true_eq,Bool.or_eq_true,Bool.and_eq_true]
 split <;> (repeat' split) <;> omega
theorem zxa : SWO (ltOf QD) where
 irrefl x:=by rw[JZ];simp[jU]
 trans x y z h1 h2:=by rw[JZ] at *;simp[jU] at *;omega
 ntrans x y z h1 h2:=by rw[JZ] at *;simp[jU] at *;omega
instance inhcf101 : Inhabited RN:=⟨⟨0,0⟩⟩
theorem xia(blk off size:Nat)(w:World):CmpLays Tryz.prog 102 #[] RN.v 2 QD blk off size w:=fun _ _ _ _ x y=>xha x y _
set_option maxHeartbeats 2000000 in
set_option maxRecDepth 100000 in
theorem yja(blk off cap:Nat)(d:Array RN)(w:World)(hH:HoldsK RN.v 2 w blk off d)(hblk:blk < w.heap.size)(hsz:d.size < 4611686018427387904) :
  Calls Tryz.prog 101 #[.slice (some ⟨blk,off,none⟩) d.size cap,.func (.func 102) #[] #[]] w fun e w'=>e=.returned (.tuple #[])/\∃ n os,w'=sortWorldK RN.v 2 w blk off n (pdq (ltOf QD) d 0 d.size (Lib.bitLen d.size) true true) os:=by
 have eg:∀ args w,(callFunc 102 args).run Tryz.prog w=.ok (.enter 102 args) w:=Tryz.call102;have e14:=Tryz.call124;have e15:=Tryz.call96;have hlim:Lib.bitLen d.size < 4611686018427387904:=Nat.lt_of_le_of_lt (Lib.bitLen_le d.size 62 (by omega) (by omega)) (by omega);have hp:=AnyQ.pdqsortCmpFunc_all Tryz.pdq124 2 Tryz.isAgg120 Tryz.sizeOf120 RN.v QD 102 #[] zxa blk off cap d w eg (xia blk off d.size w) ⟨fun _=>rfl,RN.v1,hH,hblk⟩ (d.size+1) 0 d.size (Lib.bitLen d.size) d w (by omega) rfl (SWK.start hH) (Nat.zero_le _) (Nat.le_refl _) hsz hlim (Or.inl rfl)
 change Calls Tryz.prog 124 _ _ _ at hp
 have hl:Calls Tryz.prog 96 #[.int .u64 (d.size:Int)] w fun e w'=>e=.returned (.int .i64 (Lib.bitLen d.size:Nat))/\w'=w:=by
  have h:=Any.bits_Len (SlLaysF0.n15.bits Tryz.bits96) (d.size:Int) w (by omega) (by omega)
  rwa [Int.toNat_natCast] at h
 have wr:IntKind.u64.wrap (d.size:Int)=d.size:=by simp[IntKind.wrap,IntKind.bits,IntKind.signed];omega
 clear hH
 go_enter Tryz.func101,Tryz.ntmps101
 go_wp2_with (first | (go_at_call 96;refine hl.mono ?_;rintro e w' ⟨rfl,rfl⟩) | (go_at_call 124;refine hp.mono ?_;rintro e w' ⟨rfl,n,os,rfl⟩))
 go_end0
 exact⟨rfl,n,os,rfl⟩
theorem zEa(w:World):Calls Tryz.prog 101 #[.slice none 0 0,.func (.func 102) #[] #[]] w fun e w'=>e=.returned (.tuple #[])/\Go.RowKit.Below w.heap.size w w':=by
 have e14:=Tryz.call124;have e15:=Tryz.call96;have hp:=fun lim W=>AnyF.pdqsortCmpFunc_none Tryz.pdq124 none 0 lim (.func (.func 102) #[] #[]) W
 have hl:∀ W,Calls Tryz.prog 96 #[.int .u64 0] W fun e w'=>e=.returned (.int .i64 (Lib.bitLen 0:Nat))/\w'=W:=fun W=>by
  have h:=Any.bits_Len (SlLaysF0.n15.bits Tryz.bits96) 0 W (by omega) (by omega);exact h
 go_enter Tryz.func101,Tryz.ntmps101
 go_wp2_with (first | (go_at_call 96;refine(hl _).mono ?_;rintro e w' ⟨rfl,rfl⟩) | (go_at_call 124;refine(hp _ _).mono ?_;rintro e w' ⟨rfl,rfl⟩))
 go_end0
 exact⟨rfl,Go.RowKit.Below.refl _ _⟩
theorem yka : SortLaw Tryz.prog 101 102 2 RN.v jU:=SortLaw.of zxa JZ (fun _=>rfl) zEa (fun blk off cap d w hH hblk hsz=>yja blk off cap d w hH hblk hsz)
end Go.Proofs
