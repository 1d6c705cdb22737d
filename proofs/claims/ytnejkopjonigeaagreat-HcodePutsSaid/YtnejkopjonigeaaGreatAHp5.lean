/- Side texts. -/
import Derived.Test.YtnejkopjonigeaaGreatProg
import Derived.Shelf.SlGeneric
import Derived.Shelf.SlLaysF0
import Derived.Ground.SlsfProg
import Derived.Shelf.SlSortCmp.WholeK
import Derived.Test.YtnejkopjonigeaaGreatAHp2
import Derived.Test.YtnejkopjonigeaaGreatAHp4
set_option linter.unusedVariables false
set_option linter.unusedSimpArgs false
namespace Go.Ep
open Go
def Yx(c1:List PT):Int->M (M.Step Int (M.Ex Unit Bool)):=fun i12=>
 cond ((decide (i12 < (c1.length:Int))))
  (M.bind (M.idx c1 i12) fun x14=>
  cond ((decide (30 < (x14.runs.length:Int))))
   (M.pure (.done (.ret false)))
   (M.pure (.next (IntKind.i64.wrap (i12+1)))))
  (M.pure (.done (.brk ())))
def Uj(c1:List PT):M Bool:=
 cond ((decide (30 < (c1.length:Int))))
  (M.pure false)
  (M.bind (M.loop (Yx c1) 0) (M.exk (fun _=>
  M.pure true)))
def Yy(l1:List EV):Int->M (M.Step Int (M.Ex Unit Bool)):=fun i21=>
 cond ((decide (i21 < (l1.length:Int))))
  (M.bind (M.bind (M.idx l1 i21) fun x24=>
  cond ((decide (300 < (x24.kills.length:Int))))
   (M.pure true)
   (M.bind (M.idx l1 i21) fun x27=>
   M.pure ((decide (200 < (ByteArray.size x27.text:Int)))))) (fun v23=>
  cond v23
   (M.pure (.done (.ret false)))
   (M.pure (.next (IntKind.i64.wrap (i21+1))))))
  (M.pure (.done (.brk ())))
def Jg(l1:List EV)(most2:Int):M Bool:=
 cond ((decide (most2 < (l1.length:Int))))
  (M.pure false)
  (M.bind (M.loop (Yy l1) 0) (M.exk (fun _=>
  M.pure true)))
def JB(s1:THubState):Int->M (M.Step Int (M.Ex Unit Bool)):=fun i25=>
 cond ((decide (i25 < (s1.rows.length:Int))))
  (M.bind (M.idx s1.rows i25) fun x27=>
  M.bind (M.det (Uj x27.have_)) fun v29=>
  cond (!v29)
   (M.pure (.done (.ret false)))
   (M.pure (.next (IntKind.i64.wrap (i25+1)))))
  (M.pure (.done (.brk ())))
def Jh(s1:THubState):M Bool:=
 M.bind (cond ((decide (20 < (s1.members.length:Int))))
  (M.pure true)
  (cond ((decide (40 < (s1.tries.length:Int))))
   (M.pure true)
   (cond ((decide (20 < (s1.rows.length:Int))))
    (M.pure true)
    (M.bind (M.det (Uj s1.ctx)) fun v6=>
    cond (!v6)
     (M.pure true)
     (M.bind (M.det (Jg s1.all 30)) fun v9=>
     M.pure (!v9)))))) (fun v2=>
 cond v2
  (M.pure false)
  (M.bind (M.loop (JB s1) 0) (M.exk (fun _=>
  M.pure true))))
def wG(x1:Int):M Bool:=
 M.pure (!decide (x1=x1))
def yi(x1:Int)(y2:Int):M Int:=
 M.bind (M.det (wG x1)) fun v3=>
 M.bind (M.det (wG y2)) fun v5=>
 cond v3
  (cond v5
   (M.pure 0)
   (M.pure (-1)))
  (cond v5
   (M.pure 1)
   (cond (decide (x1 < y2))
    (M.pure (-1))
    (cond (decide (y2 < x1))
     (M.pure 1)
     (M.pure 0))))
def vT(l1:List RN):Int×List RN->M (M.Step (Int×List RN) (List RN)):=fun⟨v23,some24⟩=>
 cond ((decide (v23 < (l1.length:Int))))
  (M.bind (M.bind (M.idx l1 v23) fun x27=>
  M.bind (cond (decide (0 < x27.lo))
   (cond (decide (x27.lo<=x27.hi))
    (M.pure (decide (x27.hi<=281474976710655)))
    (M.pure false))
   (M.pure false)) (fun v29=>
  cond v29
   (M.yM ((some24.length+List.length ([x27]))*16<=140737488355328) <|
   M.pure (some24++[x27]))
   (M.pure some24))) (fun some26=>
  M.pure (.next (((IntKind.i64.wrap (v23+1)),some26)))))
  (M.pure (.done some24))
def vU(some2:List RN)(s34:List RN):Int×List RN->M (M.Step (Int×List RN) (List RN)):=fun⟨v69,out70⟩=>
 cond ((decide (v69 < ((some2.length):Int))))
  (M.bind (M.bind (M.idx s34 v69) fun x73=>
  M.bind (cond ((decide (0<=((IntKind.i64.wrap (((out70.length):Int) - 1))))))
   (M.bind (M.idx out70 ((IntKind.i64.wrap (((out70.length):Int) - 1)))) fun x77=>
   M.pure ((decide (x73.lo<=(IntKind.u64.wrap (x77.hi+1))))))
   (M.pure false)) (fun v75=>
  cond v75
   (M.bind (M.idx out70 ((IntKind.i64.wrap (((out70.length):Int) - 1)))) fun x80=>
   M.bind (M.idx out70 ((IntKind.i64.wrap (((out70.length):Int) - 1)))) fun x82=>
   M.pure ((List.set out70 ((Int.toNat ((IntKind.i64.wrap (((out70.length):Int) - 1))))) (⟨x82.lo,(max x80.hi x73.hi)⟩:RN))))
   (M.yM ((out70.length+List.length ([x73]))*16<=140737488355328) <|
   M.pure (out70++[x73])))) (fun out72=>
  M.pure (.next (((IntKind.i64.wrap (v69+1)),out72)))))
  (M.pure (.done out70))
def vV(l1:List RN):M (List RN):=
 M.bind (M.loop (vT l1) (0,([]:List RN))) (fun some2=>
 M.yM (some2.length < 4611686018427387904)<|M.bind (M.srt jh some2) fun s34=>
 M.bind (M.loop (vU some2 s34) (0,([]:List RN))) (fun out38=>
 M.pure out38))
def wH(x1:Int):M Bool:=
 M.pure (!decide (x1=x1))
def xR(x1:Int)(y2:Int):M Int:=
 M.bind (M.det (wH x1)) fun v3=>
 M.bind (M.det (wH y2)) fun v5=>
 cond v3
  (cond v5
   (M.pure 0)
   (M.pure (-1)))
  (cond v5
   (M.pure 1)
   (cond (decide (x1 < y2))
    (M.pure (-1))
    (cond (decide (y2 < x1))
     (M.pure 1)
     (M.pure 0))))
def uu(m1:List (Int×List RN)):List Nat×List PT->M (M.Step (List Nat×List PT) (List PT)):=fun⟨seen28,c29⟩=>
 M.yM (∀ i∈seen28,i < m1.length)<|M.bind (M.nxt (m1.length) seen28) fun o=>match o with
 | none=>
  M.pure (.done c29)
 | some j30=>
  M.bind (M.idx m1 (Int.ofNat j30)) fun kv34=>
  M.bind (M.det (vV kv34.2)) fun v36=>
  cond ((decide (0 < ((v36.length):Int))))
   (M.yM ((c29.length+List.length ([(⟨kv34.1,v36⟩:PT)]))*32<=140737488355328) <|
   M.pure (.next (((seen28++[j30]),(c29++[(⟨kv34.1,v36⟩:PT)])))))
   (M.pure (.next ((seen28++[j30]),c29)))
def YS(m1:List (Int×List RN)):M (List PT):=
 M.bind (M.loop (uu m1) ([],([]:List PT))) (fun c3=>
 M.yM (c3.length < 4611686018427387904)<|M.bind (M.srt JA c3) fun s41=>
 M.pure s41)
def zo(p:PT):Option (Int×List RN):=if 0 < p.dev then some (p.dev,p.runs) else none
def WR(c1:List PT):M (List (Int×List RN)):=
 M.yM (AL.growOK 16 (c1.length) (List.filterMap zo c1)) <|
 M.pure ((AL.grow ([]:List (Int×List RN)) (List.filterMap zo c1)))
def vN(c1:List PT):M (List PT):=
 M.bind (M.det (WR c1)) fun v2=>
 M.bind (M.det (YS v2)) fun v5=>
 M.pure v5
def um(s1_1:List RN)(s2_2:List RN):Int->M (M.Step Int (M.Ex Unit Bool)):=fun v17=>
 cond ((decide (v17 < (s1_1.length:Int))))
  (M.bind (M.idx s1_1 v17) fun x19=>
  M.bind (M.idx s2_2 v17) fun x21=>
  cond ((!(decide (x19.lo=x21.lo)&&decide (x19.hi=x21.hi))))
   (M.pure (.done (.ret false)))
   (M.pure (.next (IntKind.i64.wrap (v17+1)))))
  (M.pure (.done (.brk ())))
def yX(s1_1:List RN)(s2_2:List RN):M Bool:=
 cond ((!decide ((s1_1.length:Int)=(s2_2.length:Int))))
  (M.pure false)
  (M.bind (M.loop (um s1_1 s2_2) 0) (M.exk (fun _=>
  M.pure true)))
def Uk(x1:PT)(y2:PT):M Bool:=
 M.bind (cond (decide (x1.dev=y2.dev))
  (M.bind (M.det (yX x1.runs y2.runs)) fun v5=>
  M.pure v5)
  (M.pure false)) (fun v3=>
 M.pure v3)
def zP(s1_1:List PT)(s2_2:List PT):Int->M (M.Step Int (M.Ex Unit Bool)):=fun v21=>
 cond ((decide (v21 < (s1_1.length:Int))))
  (M.bind (M.idx s1_1 v21) fun x23=>
  M.bind (M.idx s2_2 v21) fun x25=>
  M.bind (M.det (Uk x23 x25)) fun v27=>
  cond (!v27)
   (M.pure (.done (.ret false)))
   (M.pure (.next (IntKind.i64.wrap (v21+1)))))
  (M.pure (.done (.brk ())))
def zT(s1_1:List PT)(s2_2:List PT):M Bool:=
 cond ((!decide ((s1_1.length:Int)=(s2_2.length:Int))))
  (M.pure false)
  (M.bind (M.loop (zP s1_1 s2_2) 0) (M.exk (fun _=>
  M.pure true)))
def yla(a1:List PT)(b2:List PT):M Bool:=
 M.bind (M.det (zT a1 b2)) fun v3=>
 M.pure v3
def WS(c1:List PT):M Bool:=
 M.bind (M.det (vN c1)) fun v2=>
 M.bind (M.det (yla c1 v2)) fun v4=>
 M.pure v4
def Zg(a1:DT)(b2:DT):M Int:=
 M.bind (M.det (xR a1.dev b2.dev)) fun v3=>
 cond (!decide (v3=0))
  (M.pure v3)
  (M.bind (M.det (yi a1.n b2.n)) fun v6=>
  M.pure v6)
def uv(d1:DT):M Bool:=
 M.bind (cond (decide (0 < d1.dev))
  (cond (decide (0 < d1.n))
   (M.pure (decide (d1.n<=281474976710655)))
   (M.pure false))
  (M.pure false)) (fun v2=>
 M.pure v2)
def Zh(v1:Int):M (Int×Int):=
 M.pure (((IntKind.u16.wrap (Int.fdiv v1 (2 ^ 48))),(bAnd .u64 v1 281474976710655)))
def Yz(v1:Int):M (DT×Bool):=
 M.bind (M.det (Zh v1)) fun v2=>
 M.bind (M.det (uv (⟨v2.1,v2.2⟩:DT))) fun v4=>
 cond (!v4)
  (M.pure ((⟨0,0⟩:DT),false))
  (M.pure ((⟨v2.1,v2.2⟩:DT),true))
def XA(f1:Int):M Bool:=
 M.bind (cond (decide (1<=f1))
  (M.pure (decide (f1<=5)))
  (M.pure false)) (fun v2=>
 M.pure v2)
def wg(s1:ByteArray):Int->M (M.Step Int (M.Ex Unit Bool)):=fun v20=>
 cond ((decide (v20 < (ByteArray.size s1:Int))))
  (M.bind (M.bind (M.idx (yV s1) v20) fun b23=>
  cond (decide (b23 < 32))
   (M.pure true)
   (M.bind (M.idx (yV s1) v20) fun b26=>
   M.pure (decide (126 < b26)))) (fun v22=>
  cond v22
   (M.pure (.done (.ret false)))
   (M.pure (.next (IntKind.i64.wrap (v20+1))))))
  (M.pure (.done (.brk ())))
def XB(s1:ByteArray):M Bool:=
 cond ((decide (60 < (ByteArray.size s1:Int))))
  (M.pure false)
  (M.bind (M.loop (wg s1) 0) (M.exk (fun _=>
  M.pure true)))
def yj(l1:List DT):Int->M (M.Step Int (M.Ex Unit Bool)):=fun v23=>
 cond ((decide (v23 < (l1.length:Int))))
  (M.bind (cond (decide (0 < v23))
   (M.bind (M.idx l1 (IntKind.i64.wrap (v23 - 1))) fun x27=>
   M.bind (M.idx l1 v23) fun x29=>
   M.bind (M.det (Zg x27 x29)) fun v31=>
   M.pure (decide (0<=v31)))
   (M.pure false)) (fun v25=>
  cond v25
   (M.pure (.done (.ret false)))
   (M.pure (.next (IntKind.i64.wrap (v23+1))))))
  (M.pure (.done (.brk ())))
def XC(l1:List DT):M Bool:=
 M.bind (M.loop (yj l1) 0) (M.exk (fun _=>
 M.pure true))
def wh(e1:EV):Int->M (M.Step Int (M.Ex Unit Bool)):=fun v43=>
 cond ((decide (v43 < (e1.kills.length:Int))))
  (M.bind (M.idx e1.kills v43) fun x45=>
  M.bind (M.bind (M.det (uv x45)) fun v48=>
  cond (!v48)
   (M.pure true)
   (M.pure (((decide (x45.dev=e1.dot.dev)&&decide (x45.n=e1.dot.n)))))) (fun v47=>
  cond v47
   (M.pure (.done (.ret false)))
   (M.pure (.next (IntKind.i64.wrap (v43+1))))))
  (M.pure (.done (.brk ())))
def ZL(e1:EV):M Bool:=
 M.bind (M.det (Yz e1.cid)) fun v2=>
 M.bind (cond (!v2.2)
  (M.pure true)
  (M.bind (M.det (uv e1.dot)) fun v6=>
  M.pure (!v6))) (fun v4=>
 cond v4
  (M.pure false)
  (M.bind (cond (decide (e1.kind=1))
   (M.bind (M.bind (M.det (XA e1.field)) fun v11=>
   cond (!v11)
    (M.pure true)
    (M.bind (M.det (XB e1.text)) fun v14=>
    M.pure (!v14))) (fun v10=>
   cond v10
    (M.pure (.ret false))
    (M.pure (.brk ()))))
   (cond (decide (e1.kind=2))
    (M.bind (cond (!decide (e1.field=0))
     (M.pure true)
     (M.pure ((!decide (e1.text=(⟨#[]⟩:ByteArray)))))) (fun v18=>
    cond v18
     (M.pure (.ret false))
     (M.pure (.brk ()))))
    (M.pure (.ret false)))) (M.exk (fun _=>
  M.bind (cond ((decide (256 < (e1.kills.length:Int))))
   (M.pure true)
   (M.bind (M.det (XC e1.kills)) fun v23=>
   M.pure (!v23))) (fun v21=>
  cond v21
   (M.pure false)
   (M.bind (M.loop (wh e1) 0) (M.exk (fun _=>
   M.pure true))))))))
def yG(s1:List DT)(v2:DT):Int->M (M.Step Int (M.Ex Unit Int)):=fun v12=>
 cond ((decide (v12 < (s1.length:Int))))
  (M.bind (M.idx s1 v12) fun x14=>
  cond (((decide (v2.dev=x14.dev)&&decide (v2.n=x14.n))))
   (M.pure (.done (.ret v12)))
   (M.pure (.next (IntKind.i64.wrap (v12+1)))))
  (M.pure (.done (.brk ())))
def xA(s1:List DT)(v2:DT):M Int:=
 M.bind (M.loop (yG s1 v2) 0) (M.exk (fun _=>
 M.pure (-1)))
def yf(s1:List DT)(v2:DT):M Bool:=
 M.bind (M.det (xA s1 v2)) fun v3=>
 M.pure (decide (0<=v3))
def Ji(l1:List DT)(d2:DT):M Bool:=
 M.bind (M.det (yf l1 d2)) fun v3=>
 M.pure v3
def Xr(e1:EV)(d2:DT):M Bool:=
 M.bind (M.det (Ji e1.kills d2)) fun v3=>
 M.pure v3
def vo(l1:List EV)(d2:DT):Int->M (M.Step Int (M.Ex Unit Bool)):=fun v16=>
 cond ((decide (v16 < (l1.length:Int))))
  (M.bind (M.idx l1 v16) fun x18=>
  M.bind (M.det (Xr x18 d2)) fun v20=>
  cond v20
   (M.pure (.done (.ret true)))
   (M.pure (.next (IntKind.i64.wrap (v16+1)))))
  (M.pure (.done (.brk ())))
def vE(l1:List EV)(d2:DT):M Bool:=
 M.bind (M.loop (vo l1 d2) 0) (M.exk (fun _=>
 M.pure false))
def yD(s1:List DT):M (List DT):=
 M.bind (M.isNil s1) fun b2=>
 cond b2
  (M.pure ([]:List DT))
  (M.yM ((List.length ([]:List DT)+s1.length)*16<=140737488355328) <|
  M.pure (([]:List DT)++s1))
def xJ(e1:EV):M EV:=
 M.bind (M.det (yD e1.kills)) fun v2=>
 M.pure (⟨e1.dot,e1.kind,e1.cid,e1.field,e1.text,v2⟩:EV)
def ze(row1:List DT)(k148:Int):Int×Int×List DT->M (M.Step (Int×Int×List DT) (Int×List DT)):=fun⟨k197,k2_198,v199⟩=>
 cond ((decide (k2_198 < ((((row1.length - Int.toNat k148):Nat):Int)))))
  (M.bind (M.yM ((0:Int)<=k2_198/\k2_198 < (((row1.length - Int.toNat k148):Nat):Int))<|M.bind (M.idx v199 ((((Int.toNat k148)+Int.toNat k2_198):Nat):Int)) fun x203=>
  M.yM ((0:Int)<=(IntKind.i64.wrap (k2_198 - 1))/\(IntKind.i64.wrap (k2_198 - 1)) < (((row1.length - Int.toNat k148):Nat):Int))<|M.bind (M.idx v199 ((((Int.toNat k148)+Int.toNat (IntKind.i64.wrap (k2_198 - 1))):Nat):Int)) fun x207=>
  cond ((!(decide (x203.dev=x207.dev)&&decide (x203.n=x207.n))))
   (M.yM ((0:Int)<=k2_198/\k2_198 < (((row1.length - Int.toNat k148):Nat):Int))<|M.bind (M.idx v199 ((((Int.toNat k148)+Int.toNat k2_198):Nat):Int)) fun x212=>
   M.bind (M.idx v199 k197) fun x216=>
   M.pure (((IntKind.i64.wrap (k197+1)),(List.set v199 (Int.toNat k197) x212))))
   (M.pure (k197,v199))) (fun⟨k201,v202⟩=>
  M.pure (.next ((k201,(IntKind.i64.wrap (k2_198+1)),v202)))))
  (M.pure (.done (k197,v199)))
def zf(row1:List DT):Int->M (M.Step Int (M.Ex Unit (List DT))):=fun k148=>
 cond ((decide (k148 < ((row1.length):Int))))
  (M.bind (M.bind (M.idx row1 k148) fun x150=>
  M.bind (M.idx row1 (IntKind.i64.wrap (k148 - 1))) fun x152=>
  cond (((decide (x150.dev=x152.dev)&&decide (x150.n=x152.n))))
   (M.yM ((0:Int)<=k148/\k148<=(row1.length:Int)) <|
   M.bind (M.loop (ze row1 k148) (k148,1,row1)) (fun⟨k156,v157⟩=>
   M.yM ((0:Int)<=k156/\k156<=(v157.length:Int)) <|
   M.yM ((Int.toNat k156)+(v157.length - Int.toNat k156)<=v157.length) <|
   M.yM ((0:Int)<=0/\(0:Int)<=k156/\k156<=(List.length ((List.take (Int.toNat k156) v157++List.replicate (v157.length - Int.toNat k156) (⟨0,0⟩:DT)++List.drop ((Int.toNat k156)+(v157.length - Int.toNat k156)) v157)):Int)) <|
   M.pure (.ret ((.done ((.ret (((List.take (Int.toNat k156) ((List.take (Int.toNat k156) v157++List.replicate (v157.length - Int.toNat k156) (⟨0,0⟩:DT)++List.drop ((Int.toNat k156)+(v157.length - Int.toNat k156)) v157))))))))))))
   (M.pure (.brk ()))) (M.exk (fun _=>
  M.pure (.next (IntKind.i64.wrap (k148+1))))))
  (M.pure (.done (.brk ())))
def zp(row1:List DT):M (List DT):=
 cond ((decide (((row1.length):Int) < 2)))
  (M.pure row1)
  (M.bind (M.loop (zf row1) 1) (M.exk (fun _=>
  M.pure row1)))
def XD(l1:List DT):M (List DT):=
 M.bind (M.det (yD l1)) fun v2=>
 M.yM (v2.length < 4611686018427387904)<|M.bind (M.srt zU v2) fun s4=>
 M.bind (M.det (zp s4)) fun y8=>
 M.pure y8
def uO(x1:RN)(n2:Int):M Int:=
 M.bind (M.det (yi x1.hi n2)) fun v3=>
 M.pure v3
def zR(x1:List RN)(target2:Int):Int×Int->M (M.Step (Int×Int) Int):=fun⟨i18,j19⟩=>
 cond (decide (i18 < j19))
  (M.bind (M.idx x1 ((IntKind.i64.wrap ((Int.fdiv ((IntKind.u64.wrap (IntKind.i64.wrap (i18+j19)))) (2 ^ 1)))))) fun x21=>
  M.bind (M.det (uO x21 target2)) fun v23=>
  cond (decide (v23 < 0))
   (M.pure (.next (((IntKind.i64.wrap (((IntKind.i64.wrap ((Int.fdiv ((IntKind.u64.wrap (IntKind.i64.wrap (i18+j19)))) (2 ^ 1)))))+1)),j19))))
   (M.pure (.next ((i18,(IntKind.i64.wrap ((Int.fdiv ((IntKind.u64.wrap (IntKind.i64.wrap (i18+j19)))) (2 ^ 1)))))))))
  (M.pure (.done i18))
def zK(x1:List RN)(target2:Int):M (Int×Bool):=
 M.bind (M.loop (zR x1 target2) (0,(x1.length:Int))) (fun i3=>
 M.bind (cond ((decide (i3 < (x1.length:Int))))
  (M.bind (M.idx x1 i3) fun x28=>
  M.bind (M.det (uO x28 target2)) fun v30=>
  M.pure (decide (v30=0)))
  (M.pure false)) (fun v26=>
 M.pure (i3,v26)))
def Vw(l1:List RN)(n2:Int):M Bool:=
 M.bind (M.det (vV l1)) fun v3=>
 M.bind (M.det (zK v3 n2)) fun v5=>
 M.bind (cond ((decide (v5.1 < (v3.length:Int))))
  (M.bind (M.idx v3 v5.1) fun x9=>
  M.pure (decide (x9.lo<=n2)))
  (M.pure false)) (fun v7=>
 M.pure v7)
def Vx(c1:List PT)(dev2:Int):M (List RN):=
 M.bind (M.det (WR c1)) fun v3=>
 M.bind (M.det (vV (AL.getZ v3 dev2 ([]:List RN)))) fun v6=>
 M.pure v6
def Ul(c1:List PT)(d2:DT):M Bool:=
 M.bind (cond (decide (0 < d2.dev))
  (M.bind (M.det (Vx c1 d2.dev)) fun v5=>
  M.bind (M.det (Vw v5 d2.n)) fun v7=>
  M.pure v7)
  (M.pure false)) (fun v3=>
 M.pure v3)
def vp(l1:List DT)(c2:List PT)(has3:Bool):Int×List DT->M (M.Step (Int×List DT) (List DT)):=fun⟨v23,out24⟩=>
 cond ((decide (v23 < (l1.length:Int))))
  (M.bind (M.bind (M.idx l1 v23) fun x27=>
  M.bind (M.det (Ul c2 x27)) fun v29=>
  cond (v29==has3)
   (M.yM ((out24.length+List.length ([x27]))*16<=140737488355328) <|
   M.pure (out24++[x27]))
   (M.pure out24)) (fun out26=>
  M.pure (.next (((IntKind.i64.wrap (v23+1)),out26)))))
  (M.pure (.done out24))
def VD(l1:List DT)(c2:List PT)(has3:Bool):M (List DT):=
 M.bind (M.loop (vp l1 c2 has3) (0,([]:List DT))) (fun out4=>
 M.bind (M.det (XD out4)) fun v33=>
 M.pure v33)
def XE(l1:List DT)(c2:List PT):M (List DT):=
 M.bind (M.det (VD l1 c2 false)) fun v3=>
 M.pure v3
def vq(l1:List EV):Int×List DT->M (M.Step (Int×List DT) (List DT)):=fun⟨v15,out16⟩=>
 cond ((decide (v15 < (l1.length:Int))))
  (M.bind (M.idx l1 v15) fun x18=>
  M.yM ((out16.length+List.length ([x18.dot]))*16<=140737488355328) <|
  M.yM ((List.length (out16++[x18.dot])+x18.kills.length)*16<=140737488355328) <|
  M.pure (.next (((IntKind.i64.wrap (v15+1)),((out16++[x18.dot])++x18.kills)))))
  (M.pure (.done out16))
def XF(l1:List EV):M (List DT):=
 M.bind (M.loop (vq l1) (0,([]:List DT))) (fun out2=>
 M.bind (M.det (XD out2)) fun v22=>
 M.pure v22)
def yO(n1:Int):M (List PT):=
 cond (decide (n1 < 0))
  M.fail
  (M.bind (cond ((decide (0 < ((IntKind.i64.wrap (n1 - (IntKind.i64.wrap (0 - 0))))))))
   (M.yM (0 < ((IntKind.i64.wrap (n1 - (IntKind.i64.wrap (0 - 0)))))/\((IntKind.i64.wrap (n1 - (IntKind.i64.wrap (0 - 0)))))*32<=140737488355328) <|
   M.yM ((0:Int)<=0/\(0:Int)<=0/\0<=(List.length ((List.replicate (Int.toNat ((IntKind.i64.wrap (n1 - (IntKind.i64.wrap (0 - 0)))))) (⟨0,([]:List RN)⟩:PT))):Int)) <|
   M.pure ((List.take (Int.toNat 0) ((List.replicate (Int.toNat ((IntKind.i64.wrap (n1 - (IntKind.i64.wrap (0 - 0)))))) (⟨0,([]:List RN)⟩:PT))))))
   (M.pure ([]))) (fun v3=>
  M.pure v3))
def zZ(slices1:List (List PT)):Int×Int->M (M.Step (Int×Int) Int):=fun⟨size13,v14⟩=>
 cond ((decide (v14 < (slices1.length:Int))))
  (M.bind (M.idx slices1 v14) fun x16=>
  cond ((decide (((IntKind.i64.wrap (size13+(x16.length:Int)))) < 0)))
   M.fail
   (M.pure (.next (((IntKind.i64.wrap (size13+(x16.length:Int))),(IntKind.i64.wrap (v14+1)))))))
  (M.pure (.done size13))
def za(slices1:List (List PT)):Int×List PT->M (M.Step (Int×List PT) (List PT)):=fun⟨v32,v33⟩=>
 cond ((decide (v32 < (slices1.length:Int))))
  (M.bind (M.idx slices1 v32) fun x35=>
  M.yM ((v33.length+x35.length)*32<=140737488355328) <|
  M.pure (.next (((IntKind.i64.wrap (v32+1)),(v33++x35)))))
  (M.pure (.done v33))
def yd(slices1:List (List PT)):M (List PT):=
 M.bind (M.loop (zZ slices1) (0,0)) (fun size2=>
 M.bind (M.det (yO size2)) fun v19=>
 M.bind (M.loop (za slices1) (0,v19)) (fun v21=>
 M.pure v21))
def Vy(a1:List PT)(b2:List PT):M (List PT):=
 M.bind (M.det (yd ([a1,b2]))) fun v3=>
 M.bind (M.det (vN v3)) fun v5=>
 M.pure v5
def vW :M (Int×Int×A16×Bool×(List (Int×TMember))):=
 M.pure ((1,0,(0,0,0,0,0,0,0,0,0,0,0,0,0,0,0,0),false,([]:List (Int×TMember))))
def zt(epoch_1:Int)(last_2:Int)(c3:A16)(nl4:Bool)(m5:List (Int×TMember)):M Bool:=
 M.pure (decide (epoch_1=0))
def xp(m5:List (Int×TMember)):List Nat×List TMember->M (M.Step (List Nat×List TMember) (List TMember)):=fun⟨seen29,out30⟩=>
 M.yM (∀ i∈seen29,i < m5.length)<|M.bind (M.nxt (m5.length) seen29) fun o=>match o with
 | none=>
  M.pure (.done out30)
 | some j31=>
  M.bind (M.idx m5 (Int.ofNat j31)) fun kv35=>
  M.yM ((out30.length+List.length ([kv35.2]))*16<=140737488355328) <|
  M.pure (.next ((seen29++[j31]),(out30++[kv35.2])))
def yE(epoch_1:Int)(last_2:Int)(c3:A16)(nl4:Bool)(m5:List (Int×TMember)):M (List TMember):=
 M.bind (M.det (zt epoch_1 last_2 c3 nl4 m5)) fun y6=>
 cond y6
  (M.pure ([]:List TMember))
  (M.bind (M.loop (xp m5) ([],([]:List TMember))) (fun out10=>
  M.yM (out10.length < 4611686018427387904)<|M.bind (M.srt xP out10) fun s39=>
  M.pure s39))
def YT(y7:List TMember)(slot1:Int):Int->M (M.Step Int (M.Ex Unit (TMember×Bool))):=fun v18=>
 cond ((decide (v18 < (y7.length:Int))))
  (M.bind (M.idx y7 v18) fun x20=>
  cond (decide (x20.slot=slot1))
   (M.pure (.done (.ret (x20,true))))
   (M.pure (.next (IntKind.i64.wrap (v18+1)))))
  (M.pure (.done (.brk ())))
def yk(slot1:Int)(epoch_2:Int)(last_3:Int)(c4:A16)(nl5:Bool)(m6:List (Int×TMember)):M (TMember×Bool):=
 M.bind (M.det (yE epoch_2 last_3 c4 nl5 m6)) fun y7=>
 M.bind (M.loop (YT y7 slot1) 0) (M.exk (fun _=>
 M.pure ((⟨0,0,0⟩:TMember),false)))
def vd(members3:List TMember)(last2:Int)(y9:Int×Int×A16×Bool×(List (Int×TMember)))(tries4:List Int)(epoch1:Int):Int×(List (Int×TMember))->M (M.Step (Int×(List (Int×TMember))) (M.Ex (List (Int×TMember)) (Unit⊕(Int×Int×A16×Bool×(List (Int×TMember)))))):=fun⟨v52,v53⟩=>
 cond ((decide (v52 < (members3.length:Int))))
  (M.bind (M.idx members3 v52) fun x55=>
  M.bind (cond (decide (x55.dev=0))
   (M.pure true)
   (cond (decide (last2 < x55.dev))
    (M.pure true)
    (cond (decide (0 < v52))
     (M.bind (M.idx members3 (IntKind.i64.wrap (v52 - 1))) fun x61=>
     M.pure (decide (x55.dev<=x61.dev)))
     (M.pure false)))) (fun v57=>
  cond v57
   (M.pure (.done ((.ret (.inl ())))))
   (M.bind (cond (decide (16<=x55.slot))
    (M.pure true)
    (cond (decide (x55.try_=0))
     (M.pure true)
     (M.yM ((0:Int)<=x55.slot/\x55.slot < ((16:Nat):Int)) <|
     M.pure ((!decide ((AR.get (AR.over y9.2.2.1 tries4) (Int.toNat x55.slot))=x55.try_)))))) (fun v64=>
   cond v64
    (M.pure (.done ((.ret (.inl ())))))
    (M.bind (M.det (yk x55.slot epoch1 last2 (AR.over y9.2.2.1 tries4) y9.2.2.2.1 v53)) fun y69=>
    cond y69.2
     (M.pure (.done ((.ret (.inl ())))))
     (M.yM (y9.2.2.2.1=false) <|
     M.pure (.next (((IntKind.i64.wrap (v52+1)),(AL.set v53 x55.dev x55))))))))))
  (M.pure (.done (.brk v53)))
def wi(epoch1:Int)(last2:Int)(members3:List TMember)(tries4:List Int):M (Unit⊕(Int×Int×A16×Bool×(List (Int×TMember)))):=
 M.bind (cond (decide (epoch1=0))
  (M.pure true)
  (cond (decide (281474976710655 < epoch1))
   (M.pure true)
   (M.pure ((!decide ((tries4.length:Int)=16)))))) (fun v5=>
 cond v5
  (M.pure (.inl ()))
  (M.bind (M.det (vW)) fun y9=>
  M.bind (M.loop (vd members3 last2 y9 tries4 epoch1) (0,y9.2.2.2.2)) (M.exk (fun v11=>
  M.pure (.inr (epoch1,last2,(AR.over y9.2.2.1 tries4),y9.2.2.2.1,v11))))))
def ZM(e1:EV)(nl2:Bool)(m3:List (DT×EV)):M (Bool×(List (DT×EV))):=
 M.bind (cond nl2
  (M.pure ([]:List (DT×EV)))
  (M.pure m3)) (fun v4=>
 M.bind (M.det (xJ e1)) fun v9=>
 M.pure (false,(AL.set v4 e1.dot v9)))
def zu(l2:List EV):Int×Bool×(List (DT×EV))×Bool×(List (DT×EV))->M (M.Step (Int×Bool×(List (DT×EV))×Bool×(List (DT×EV))) (M.Ex (Bool×(List (DT×EV))×Bool×(List (DT×EV))) (Unit⊕(List PT×Bool×(List (DT×EV))×Bool×(List (DT×EV)))))):=fun⟨v72,nl73,v74,nl75,v76⟩=>
 cond ((decide (v72 < (l2.length:Int))))
  (M.bind (M.bind (M.idx l2 v72) fun x82=>
  M.bind (M.bind (M.det (ZL x82)) fun v85=>
  cond (!v85)
   (M.pure true)
   (cond (decide (0 < v72))
    (M.bind (M.idx l2 (IntKind.i64.wrap (v72 - 1))) fun x89=>
    M.bind (M.det (Zg x89.dot x82.dot)) fun v91=>
    cond (decide (0<=v91))
     (M.pure true)
     (cond (decide (x82.kind=1))
      (M.bind (M.det (vE l2 x82.dot)) fun v95=>
      M.pure v95)
      (M.pure false)))
    (cond (decide (x82.kind=1))
     (M.bind (M.det (vE l2 x82.dot)) fun v98=>
     M.pure v98)
     (M.pure false)))) (fun v84=>
  cond v84
   (M.pure (.ret ((.done ((.ret (.inl ())))))))
   (cond (decide (x82.kind=1))
    (M.bind (M.det (ZM x82 nl75 v76)) fun y102=>
    M.pure (.brk (nl73,v74,y102.1,y102.2)))
    (M.bind (M.det (ZM x82 nl73 v74)) fun y104=>
    M.pure (.brk (y104.1,y104.2,nl75,v76)))))) (M.exk (fun⟨nl78,v79,nl80,v81⟩=>
  M.pure (.next (((IntKind.i64.wrap (v72+1)),nl78,v79,nl80,v81))))))
  (M.pure (.done (.brk (nl73,v74,nl75,v76))))
def uP(c1:List PT)(l2:List EV):M (Unit⊕(List PT×Bool×(List (DT×EV))×Bool×(List (DT×EV)))):=
 M.bind (M.det (vN c1)) fun v3=>
 M.bind (M.loop (zu l2) ((0,true,([]:List (DT×EV)),true,([]:List (DT×EV))))) (M.exk (fun⟨nl5,v6,nl7,v8⟩=>
 M.bind (M.bind (M.det (WS c1)) fun v107=>
 cond (!v107)
  (M.pure true)
  (M.bind (M.det (XF l2)) fun v110=>
  M.bind (M.det (XE v110 c1)) fun v112=>
  M.pure ((decide (0 < ((v112.length):Int)))))) (fun v106=>
 cond v106
  (M.pure (.inl ()))
  (M.pure (.inr (v3,nl7,v8,nl5,v6))))))
def YU :M (Bool×(List ((Int×Int)×List RN))):=
 M.pure ((true,([]:List ((Int×Int)×List RN))))
def xa(who1:Int)(nl2:Bool)(m3:List ((Int×Int)×List RN)):M Bool:=
 M.pure (AL.has m3 (who1,0))
def yS(who1:Int)(dev2:Int)(l3:List RN)(nl4:Bool)(m5:List ((Int×Int)×List RN)):M (Bool×(List ((Int×Int)×List RN))):=
 M.bind (cond nl4
  (M.pure (([]:List ((Int×Int)×List RN))))
  (M.pure m5)) (fun v6=>
 M.pure ((false,(AL.set v6 (who1,dev2) l3))))
def yx(who1:Int)(nl2:Bool)(m3:List ((Int×Int)×List RN)):M (Bool×Bool×(List ((Int×Int)×List RN))):=
 M.bind (cond (decide (who1=0))
  (M.pure true)
  (M.bind (M.det (xa who1 nl2 m3)) fun y6=>
  M.pure y6)) (fun v4=>
 cond v4
  (M.pure (false,nl2,m3))
  (M.bind (M.det (yS who1 0 ([]:List RN) nl2 m3)) fun y9=>
  M.pure (true,y9.1,y9.2)))
def uQ(m3:List ((Int×Int)×List RN))(who1:Int):List Nat×List PT->M (M.Step (List Nat×List PT) (List PT)):=fun⟨seen30,c31⟩=>
 M.yM (∀ i∈seen30,i < m3.length)<|M.bind (M.nxt (m3.length) seen30) fun o=>match o with
 | none=>
  M.pure (.done c31)
 | some j32=>
  M.bind (M.idx m3 (Int.ofNat j32)) fun kv36=>
  cond (decide (kv36.1.1=who1))
   (M.yM ((c31.length+List.length ([(⟨kv36.1.2,kv36.2⟩:PT)]))*32<=140737488355328) <|
   M.pure (.next (((seen30++[j32]),(c31++[(⟨kv36.1.2,kv36.2⟩:PT)])))))
   (M.pure (.next ((seen30++[j32]),c31)))
def yh(who1:Int)(nl2:Bool)(m3:List ((Int×Int)×List RN)):M (List PT):=
 M.bind (M.loop (uQ m3 who1) ([],([]:List PT))) (fun c5=>
 M.bind (M.det (vN c5)) fun v43=>
 M.pure v43)
def vj(v10:List PT)(who1:Int):Int×Bool×(List ((Int×Int)×List RN))->M (M.Step (Int×Bool×(List ((Int×Int)×List RN))) (Bool×(List ((Int×Int)×List RN)))):=fun⟨v27,nl28,v29⟩=>
 cond ((decide (v27 < ((v10.length):Int))))
  (M.bind (M.idx v10 v27) fun x31=>
  M.bind (M.det (yS who1 x31.dev x31.runs nl28 v29)) fun y33=>
  M.pure (.next (((IntKind.i64.wrap (v27+1)),y33.1,y33.2))))
  (M.pure (.done (nl28,v29)))
def yy(who1:Int)(c2:List PT)(nl3:Bool)(m4:List ((Int×Int)×List RN)):M (Int×Bool×(List ((Int×Int)×List RN))):=
 M.bind (M.det (xa who1 nl3 m4)) fun y5=>
 cond (!y5)
  (M.pure (6,nl3,m4))
  (M.bind (M.det (yh who1 nl3 m4)) fun y8=>
  M.bind (M.det (Vy y8 c2)) fun v10=>
  M.bind (M.loop (vj v10 who1) (0,nl3,m4)) (fun⟨nl12,v13⟩=>
  M.pure (0,nl12,v13)))
def ve(s1:THubState):Int×Bool×(List ((Int×Int)×List RN))->M (M.Step (Int×Bool×(List ((Int×Int)×List RN))) (M.Ex (Bool×(List ((Int×Int)×List RN))) (Unit⊕(Int×Int×A16×List PT×Bool×(List (Int×TMember))×Bool×(List ((Int×Int)×List RN))×Bool×(List (DT×EV))×Bool×(List (DT×EV)))))):=fun⟨v46,nl47,v48⟩=>
 cond ((decide (v46 < (s1.rows.length:Int))))
  (M.bind (M.idx s1.rows v46) fun x50=>
  M.bind (M.bind (M.idx s1.members v46) fun x53=>
  cond (!decide (x50.who=x53.dev))
   (M.pure true)
   (M.bind (M.det (WS x50.have_)) fun v56=>
   M.pure (!v56))) (fun v52=>
  cond v52
   (M.pure (.done ((.ret (.inl ())))))
   (M.bind (M.det (yx x50.who nl47 v48)) fun y59=>
   M.bind (M.det (yy x50.who x50.have_ y59.2.1 y59.2.2)) fun y61=>
   M.pure (.next (((IntKind.i64.wrap (v46+1)),y61.2.1,y61.2.2))))))
  (M.pure (.done (.brk (nl47,v48))))
def wj(s1:THubState):M (Unit⊕(Int×Int×A16×List PT×Bool×(List (Int×TMember))×Bool×(List ((Int×Int)×List RN))×Bool×(List (DT×EV))×Bool×(List (DT×EV)))):=
 M.bind (M.det (wi s1.epoch s1.last s1.members s1.tries)) fun y2=>
 M.sum y2 (fun z4=>
  M.pure (.inl ())) (fun z5=>
  M.bind (M.det (uP s1.ctx s1.all)) fun y6=>
  M.sum y6 (fun z8=>
   M.pure (.inl ())) (fun z9=>
   cond ((!decide ((s1.rows.length:Int)=(s1.members.length:Int))))
    (M.pure (.inl ()))
    (M.bind (M.det (YU)) fun y11=>
    M.bind (M.loop (ve s1) (0,y11.1,y11.2)) (M.exk (fun⟨nl13,v14⟩=>
    M.pure (.inr (z5.1,z5.2.1,z5.2.2.1,z9.1,z5.2.2.2.1,z5.2.2.2.2,nl13,v14,z9.2.1,z9.2.2.1,z9.2.2.2.1,z9.2.2.2.2)))))))
def XG(s1:THubState):M Bool:=
 M.bind (M.bind (M.det (wj s1)) fun y3=>
 M.sum y3 (fun z5=>
  M.pure (1:Int)) (fun z6=>
  M.pure (0:Int))) (fun e2=>
 M.bind (cond (decide (e2=0))
  (M.pure ((decide ((s1.all.length:Int)<=4096))))
  (M.pure false)) (fun v7=>
 M.pure v7))
def uw :Int×Int->M (M.Step (Int×Int) Int):=fun⟨v7,n8⟩=>
 cond (decide (0 < v7))
  (M.pure (.next (((Int.fdiv v7 (2 ^ 8)),(IntKind.i64.wrap (n8+1))))))
  (M.pure (.done n8))
def WT(v1:Int):M Int:=
 M.bind (M.loop uw (v1,0)) (fun n2=>
 M.pure n2)
def XH(v1:Int)(i2:Int):M Int:=
 cond ((decide (7 < (IntKind.u64.wrap i2))))
  (M.pure 0)
  (M.yM ((0:Int)<=((IntKind.u64.wrap (8*(IntKind.u64.wrap i2))))) <|
  M.pure ((IntKind.u8.wrap ((Int.fdiv v1 (2 ^ (min (Int.toNat ((IntKind.u64.wrap (8*(IntKind.u64.wrap i2))))) 64)))))))
def vr(v2:Int):Int×List Int->M (M.Step (Int×List Int) (List Int)):=fun⟨i19,v20⟩=>
 cond (decide (0<=i19))
  (M.bind (M.det (XH v2 i19)) fun v22=>
  M.yM ((v20.length+List.length ([v22]))*1<=140737488355328) <|
  M.pure (.next (((IntKind.i64.wrap (i19 - 1)),(v20++[v22])))))
  (M.pure (.done v20))
def XI(b1:List Int)(v2:Int):M (List Int):=
 M.bind (M.det (WT v2)) fun v3=>
 M.yM ((0:Int)<=((IntKind.i64.wrap (((IntKind.i64.wrap ((b1.length:Int)+v3)))+1)))/\((IntKind.i64.wrap (((IntKind.i64.wrap ((b1.length:Int)+v3)))+1)))*1<=140737488355328) <|
 M.yM ((List.length ([]:List Int)+b1.length)*1<=140737488355328) <|
 M.yM ((List.length (([]:List Int)++b1)+List.length ([(IntKind.u8.wrap v3)]))*1<=140737488355328) <|
 M.bind (M.loop (vr v2) (((IntKind.i64.wrap (v3 - 1)),((([]:List Int)++b1)++[(IntKind.u8.wrap v3)])))) (fun v8=>
 M.pure v8)
def ya(b1:List Int)(row2:List Int):M (List Int):=
 M.yM ((row2.length+b1.length)*1<=140737488355328) <|
 M.pure (row2++b1)
def zJ(v1:Int)(row2:List Int):M (List Int):=
 M.bind (M.det (XI ([]:List Int) v1)) fun v3=>
 M.bind (M.det (ya v3 row2)) fun y5=>
 M.pure y5
def yP(c1:Int)(row2:List Int):M (List Int):=
 M.bind (M.det (ya ([c1]) row2)) fun y3=>
 M.pure y3
def xh(x79:PT):Int×List Int->M (M.Step (Int×List Int) (List Int)):=fun⟨v101,v102⟩=>
 cond ((decide (v101 < (x79.runs.length:Int))))
  (M.bind (M.idx x79.runs v101) fun x104=>
  M.bind (M.det (zJ x104.lo v102)) fun y106=>
  M.bind (M.det (zJ x104.hi y106)) fun y108=>
  M.pure (.next (((IntKind.i64.wrap (v101+1)),y108))))
  (M.pure (.done v102))
def xi(v3:List PT):Int×List Int->M (M.Step (Int×List Int) (List Int)):=fun⟨v75,v76⟩=>
 cond ((decide (v75 < ((v3.length):Int))))
  (M.bind (M.bind (M.idx v3 v75) fun x79=>
  M.bind (M.det (zJ (IntKind.u64.wrap x79.dev) v76)) fun y81=>
  M.bind (M.det (zJ (IntKind.u64.wrap (x79.runs.length:Int)) y81)) fun y83=>
  M.loop (xh x79) (0,y83)) (fun v78=>
  M.pure (.next (((IntKind.i64.wrap (v75+1)),v78)))))
  (M.pure (.done v76))
def xK(c1:List PT)(row2:List Int):M (List Int):=
 M.bind (M.det (vN c1)) fun v3=>
 M.bind (M.det (zJ ((IntKind.u64.wrap ((v3.length):Int))) row2)) fun y5=>
 M.loop (xi v3) (0,y5)
def xx(d1:DT)(row2:List Int):M (List Int):=
 M.bind (M.det (zJ (IntKind.u64.wrap d1.dev) row2)) fun y3=>
 M.bind (M.det (zJ d1.n y3)) fun y5=>
 M.pure y5
def xS(s1:ByteArray)(row2:List Int):M (List Int):=
 M.bind (M.det (zJ (IntKind.u64.wrap (ByteArray.size s1:Int)) row2)) fun y3=>
 M.yM (ByteArray.size s1<=9223372036854775807) <|
 M.bind (M.det (ya (yV s1) y3)) fun y6=>
 M.pure y6
def yl(l1:List DT):Int×List DT->M (M.Step (Int×List DT) (List DT)):=fun⟨v22,some23⟩=>
 cond ((decide (v22 < (l1.length:Int))))
  (M.bind (M.bind (M.idx l1 v22) fun x26=>
  M.bind (M.det (uv x26)) fun v28=>
  cond v28
   (M.yM ((some23.length+List.length ([x26]))*16<=140737488355328) <|
   M.pure (some23++[x26]))
   (M.pure some23)) (fun some25=>
  M.pure (.next (((IntKind.i64.wrap (v22+1)),some25)))))
  (M.pure (.done some23))
def xU(v32:List DT):Int×List Int->M (M.Step (Int×List Int) (List Int)):=fun⟨v48,v49⟩=>
 cond ((decide (v48 < ((v32.length):Int))))
  (M.bind (M.idx v32 v48) fun x51=>
  M.bind (M.det (xx x51 v49)) fun y53=>
  M.pure (.next (((IntKind.i64.wrap (v48+1)),y53))))
  (M.pure (.done v49))
def wk(l1:List DT)(row2:List Int):M (List Int):=
 M.bind (M.loop (yl l1) (0,([]:List DT))) (fun some3=>
 M.bind (M.det (XD some3)) fun v32=>
 M.bind (M.det (zJ ((IntKind.u64.wrap ((v32.length):Int))) row2)) fun y34=>
 M.loop (xU v32) (0,y34))
def Zi(e1:EV)(row2:List Int):M (List Int):=
 M.bind (M.det (xx e1.dot row2)) fun y3=>
 M.bind (M.det (yP e1.kind y3)) fun y5=>
 M.bind (M.det (zJ e1.cid y5)) fun y7=>
 M.bind (M.det (yP e1.field y7)) fun y9=>
 M.bind (M.det (xS e1.text y9)) fun y11=>
 M.bind (M.det (wk e1.kills y11)) fun y13=>
 M.pure y13
def xj(l1:List EV):Int×List Int->M (M.Step (Int×List Int) (List Int)):=fun⟨v17,v18⟩=>
 cond ((decide (v17 < (l1.length:Int))))
  (M.bind (M.idx l1 v17) fun x20=>
  M.bind (M.det (Zi x20 v18)) fun y22=>
  M.pure (.next (((IntKind.i64.wrap (v17+1)),y22))))
  (M.pure (.done v18))
def vO(l1:List EV)(row2:List Int):M (List Int):=
 M.bind (M.det (zJ (IntKind.u64.wrap (l1.length:Int)) row2)) fun y3=>
 M.loop (xj l1) (0,y3)
def xB(row1:List Int):M (List Int×List Int):=
 M.yM (row1.length*1<=140737488355328) <|
 M.pure (row1,row1)
def YV(s1:THubState):Int×List Int->M (M.Step (Int×List Int) (List Int)):=fun⟨v32,v33⟩=>
 cond ((decide (v32 < (s1.members.length:Int))))
  (M.bind (M.idx s1.members v32) fun x35=>
  M.bind (M.det (zJ (IntKind.u64.wrap x35.dev) v33)) fun y37=>
  M.bind (M.det (yP x35.slot y37)) fun y39=>
  M.bind (M.det (zJ x35.try_ y39)) fun y41=>
  M.pure (.next (((IntKind.i64.wrap (v32+1)),y41))))
  (M.pure (.done v33))
def YW(s1:THubState):Int×List Int->M (M.Step (Int×List Int) (List Int)):=fun⟨v56,v57⟩=>
 cond ((decide (v56 < (s1.tries.length:Int))))
  (M.bind (M.idx s1.tries v56) fun x59=>
  M.bind (M.det (zJ x59 v57)) fun y61=>
  M.pure (.next (((IntKind.i64.wrap (v56+1)),y61))))
  (M.pure (.done v57))
def YX(s1:THubState):Int×List Int->M (M.Step (Int×List Int) (List Int)):=fun⟨v76,v77⟩=>
 cond ((decide (v76 < (s1.rows.length:Int))))
  (M.bind (M.idx s1.rows v76) fun x79=>
  M.bind (M.det (xK x79.have_ v77)) fun y81=>
  M.pure (.next (((IntKind.i64.wrap (v76+1)),y81))))
  (M.pure (.done v77))
def YY(s1:THubState):M (List Int×Int):=
 M.bind (M.det (XG s1)) fun v2=>
 cond (!v2)
  (M.pure (([]:List Int),1))
  (M.bind (M.det (zJ s1.epoch ([]:List Int))) fun y5=>
  M.bind (M.det (zJ (IntKind.u64.wrap s1.last) y5)) fun y7=>
  M.bind (M.det (zJ (IntKind.u64.wrap (s1.members.length:Int)) y7)) fun y9=>
  M.bind (M.loop (YV s1) (0,y9)) (fun v11=>
  M.bind (M.loop (YW s1) (0,v11)) (fun v43=>
  M.bind (M.loop (YX s1) (0,v43)) (fun v63=>
  M.bind (M.det (xK s1.ctx v63)) fun y83=>
  M.bind (M.det (vO s1.all y83)) fun y85=>
  M.bind (M.det (xB y85)) fun y87=>
  M.pure (y87.1,0)))))
def ZN(a1:List Int)(b2:List Int):M Bool:=
 M.pure ((decide ((yaa a1)=(yaa b2))))
def zy(s1:List Int):M (List Int):=
 M.bind (M.isNil s1) fun b2=>
 cond b2
  (M.pure ([]:List Int))
  (M.yM ((List.length ([]:List Int)+s1.length)*8<=140737488355328) <|
  M.pure (([]:List Int)++s1))
def VE :M (List PT×Bool×(List (DT×EV))×Bool×(List (DT×EV))):=
 M.pure ((([]:List PT),true,([]:List (DT×EV)),true,([]:List (DT×EV))))
def YZ :M (Int×Int×A16×List PT×Bool×(List (Int×TMember))×Bool×(List ((Int×Int)×List RN))×Bool×(List (DT×EV))×Bool×(List (DT×EV))):=
 M.bind (M.det (vW)) fun y1=>
 M.bind (M.det (YU)) fun y3=>
 M.bind (M.det (VE)) fun y5=>
 M.pure (y1.1,y1.2.1,y1.2.2.1,y5.1,y1.2.2.2.1,y1.2.2.2.2,y3.1,y3.2,y5.2.1,y5.2.2.1,y5.2.2.2.1,y5.2.2.2.2)
def xu(epoch_1:Int)(last_2:Int)(c3:A16)(ctx_4:List PT)(nl5:Bool)(m6:List (Int×TMember))(nl7:Bool)(m8:List ((Int×Int)×List RN))(nl9:Bool)(m10:List (DT×EV))(nl11:Bool)(m12:List (DT×EV)):M Bool:=
 M.pure false
def ym(epoch_1:Int)(last_2:Int)(c3:A16)(nl4:Bool)(m5:List (Int×TMember)):M Int:=
 M.bind (M.det (zt epoch_1 last_2 c3 nl4 m5)) fun y6=>
 cond y6
  (M.pure 0)
  (M.pure epoch_1)
def yt(epoch_1:Int)(last_2:Int)(c3:A16)(nl4:Bool)(m5:List (Int×TMember)):M Int:=
 M.bind (M.det (zt epoch_1 last_2 c3 nl4 m5)) fun y6=>
 cond y6
  (M.pure 0)
  (M.pure last_2)
def yn(epoch_1:Int)(last_2:Int)(c3:A16)(nl4:Bool)(m5:List (Int×TMember)):M (List Int):=
 M.bind (M.det (zt epoch_1 last_2 c3 nl4 m5)) fun y6=>
 cond y6
  (M.pure ([]:List Int))
  (M.bind (M.det (zy (AR.l c3))) fun v9=>
  M.pure v9)
def wn(ctx_1:List PT)(nl2:Bool)(m3:List (DT×EV))(nl4:Bool)(m5:List (DT×EV)):M (List PT):=
 M.bind (M.det (vN ctx_1)) fun v6=>
 M.pure v6
def Ya(m2:List (DT×EV)):List Nat×List EV->M (M.Step (List Nat×List EV) (List EV)):=fun⟨seen32,out33⟩=>
 M.yM (∀ i∈seen32,i < m2.length)<|M.bind (M.nxt (m2.length) seen32) fun o=>match o with
 | none=>
  M.pure (.done out33)
 | some j34=>
  M.bind (M.idx m2 (Int.ofNat j34)) fun kv38=>
  M.bind (M.det (xJ kv38.2)) fun v40=>
  M.yM ((out33.length+List.length ([v40]))*80<=140737488355328) <|
  M.pure (.next ((seen32++[j34]),(out33++[v40])))
def Yb(m4:List (DT×EV)):List Nat×List EV->M (M.Step (List Nat×List EV) (List EV)):=fun⟨seen70,out71⟩=>
 M.yM (∀ i∈seen70,i < m4.length)<|M.bind (M.nxt (m4.length) seen70) fun o=>match o with
 | none=>
  M.pure (.done out71)
 | some j72=>
  M.bind (M.idx m4 (Int.ofNat j72)) fun kv76=>
  M.bind (M.det (xJ kv76.2)) fun v78=>
  M.yM ((out71.length+List.length ([v78]))*80<=140737488355328) <|
  M.pure (.next ((seen70++[j72]),(out71++[v78])))
def ux(nl1:Bool)(m2:List (DT×EV))(nl3:Bool)(m4:List (DT×EV)):M (List EV):=
 M.bind (M.bind (M.loop (Ya m2) ([],([]:List EV))) (fun out8=>
 M.bind (M.loop (Yb m4) ([],out8)) (fun out46=>
 M.pure out46))) (fun out5=>
 M.yM (out5.length < 4611686018427387904)<|M.bind (M.srt Xq out5) fun s82=>
 M.pure s82)
def wq(ctx_1:List PT)(nl2:Bool)(m3:List (DT×EV))(nl4:Bool)(m5:List (DT×EV)):M (List EV):=
 M.bind (M.det (ux nl2 m3 nl4 m5)) fun y6=>
 M.pure y6
def ZO(y20:List TMember)(nl7:Bool)(m8:List ((Int×Int)×List RN)):Int×List TRow->M (M.Step (Int×List TRow) (List TRow)):=fun⟨v43,v44⟩=>
 cond ((decide (v43 < (y20.length:Int))))
  (M.bind (M.idx y20 v43) fun x46=>
  M.bind (M.det (yh x46.dev nl7 m8)) fun y48=>
  M.yM ((v44.length+List.length ([(⟨x46.dev,y48⟩:TRow)]))*32<=140737488355328) <|
  M.pure (.next (((IntKind.i64.wrap (v43+1)),(v44++[(⟨x46.dev,y48⟩:TRow)])))))
  (M.pure (.done v44))
def yo(epoch_1:Int)(last_2:Int)(c3:A16)(ctx_4:List PT)(nl5:Bool)(m6:List (Int×TMember))(nl7:Bool)(m8:List ((Int×Int)×List RN))(nl9:Bool)(m10:List (DT×EV))(nl11:Bool)(m12:List (DT×EV)):M THubState:=
 M.bind (M.det (xu epoch_1 last_2 c3 ctx_4 nl5 m6 nl7 m8 nl9 m10 nl11 m12)) fun y13=>
 cond y13
  (M.pure (⟨0,0,([]:List TMember),([]:List Int),([]:List TRow),([]:List PT),([]:List EV)⟩:THubState))
  (M.bind (M.det (ym epoch_1 last_2 c3 nl5 m6)) fun y16=>
  M.bind (M.det (yt epoch_1 last_2 c3 nl5 m6)) fun y18=>
  M.bind (M.det (yE epoch_1 last_2 c3 nl5 m6)) fun y20=>
  M.bind (M.det (yn epoch_1 last_2 c3 nl5 m6)) fun y22=>
  M.bind (M.det (wn ctx_4 nl9 m10 nl11 m12)) fun y24=>
  M.bind (M.det (wq ctx_4 nl9 m10 nl11 m12)) fun y26=>
  M.bind (M.loop (ZO y20 nl7 m8) (0,([]:List TRow))) (fun v28=>
  M.pure (⟨y16,y18,y20,y22,v28,y24,y26⟩:THubState)))
def Yc :M Bool:=
 M.bind (M.det (YZ)) fun y1=>
 M.bind (M.det (yo y1.1 y1.2.1 y1.2.2.1 y1.2.2.2.1 y1.2.2.2.2.1 y1.2.2.2.2.2.1 y1.2.2.2.2.2.2.1 y1.2.2.2.2.2.2.2.1 y1.2.2.2.2.2.2.2.2.1 y1.2.2.2.2.2.2.2.2.2.1 y1.2.2.2.2.2.2.2.2.2.2.1 y1.2.2.2.2.2.2.2.2.2.2.2)) fun y3=>
 M.bind (M.det (YY y3)) fun v5=>
 M.bind (cond (decide (v5.2=0))
  (cond ((decide ((v5.1.length:Int)=22)))
   (M.bind (M.idx v5.1 0) fun x10=>
   cond (decide (x10=1))
    (M.bind (M.idx v5.1 1) fun x13=>
    cond (decide (x13=1))
     (M.yM ((0:Int)<=2/\(2:Int)<=(v5.1.length:Int)/\(v5.1.length:Int)<=(v5.1.length:Int)) <|
     M.bind (M.det (ZN ((List.drop (Int.toNat 2) (List.take (Int.toNat (v5.1.length:Int)) v5.1))) (List.replicate 20 0))) fun v17=>
     M.pure v17)
     (M.pure false))
    (M.pure false))
   (M.pure false))
  (M.pure false)) (fun v7=>
 M.pure v7)
def Um(i76:Int)(l3:List TMember)(x78:TMember):Int->M (M.Step Int (M.Ex Unit (M.Step Int (M.Ex Unit Bool)))):=fun k105=>
 cond (decide (k105 < i76))
  (M.bind (M.idx l3 k105) fun x107=>
  cond (decide (x107.slot=x78.slot))
   (M.pure (.done ((.ret (.done (.ret false))))))
   (M.pure (.next (IntKind.i64.wrap (k105+1)))))
  (M.pure (.done (.brk ())))
def Xs(l3:List TMember)(last2:Int)(tries4:List Int):Int->M (M.Step Int (M.Ex Unit Bool)):=fun i76=>
 cond ((decide (i76 < (l3.length:Int))))
  (M.bind (M.bind (M.idx l3 i76) fun x78=>
  M.bind (cond (decide (x78.dev=0))
   (M.pure true)
   (cond (decide (last2 < x78.dev))
    (M.pure true)
    (cond (decide (0 < i76))
     (M.bind (M.idx l3 (IntKind.i64.wrap (i76 - 1))) fun x84=>
     cond (decide (x78.dev<=x84.dev))
      (M.pure true)
      (cond (decide (16<=x78.slot))
       (M.pure true)
       (cond (decide (x78.try_=0))
        (M.pure true)
        (M.bind (M.idx tries4 x78.slot) fun x89=>
        M.pure (!decide (x89=x78.try_))))))
     (cond (decide (16<=x78.slot))
      (M.pure true)
      (cond (decide (x78.try_=0))
       (M.pure true)
       (M.bind (M.idx tries4 x78.slot) fun x93=>
       M.pure (!decide (x93=x78.try_)))))))) (fun v80=>
  cond v80
   (M.pure (.ret (.done (.ret false))))
   (M.loop (Um i76 l3 x78) 0))) (M.exk (fun _=>
  M.pure (.next (IntKind.i64.wrap (i76+1))))))
  (M.pure (.done (.brk ())))
def Vz(epoch1:Int)(last2:Int)(l3:List TMember)(tries4:List Int):M Bool:=
 M.bind (cond (decide (epoch1=0))
  (M.pure true)
  (cond (decide (281474976710655 < epoch1))
   (M.pure true)
   (M.pure ((!decide ((tries4.length:Int)=16)))))) (fun v5=>
 cond v5
  (M.pure false)
  (M.bind (M.loop (Xs l3 last2 tries4) 0) (M.exk (fun _=>
  M.pure true))))
def wta(a1:List RN)(b2:List RN):Int->M (M.Step Int (M.Ex Unit Bool)):=fun i17=>
 cond ((decide (i17 < (a1.length:Int))))
  (M.bind (M.idx a1 i17) fun x19=>
  M.bind (M.idx b2 i17) fun x21=>
  cond ((!(decide (x19.lo=x21.lo)&&decide (x19.hi=x21.hi))))
   (M.pure (.done (.ret false)))
   (M.pure (.next (IntKind.i64.wrap (i17+1)))))
  (M.pure (.done (.brk ())))
def yma(a1:List RN)(b2:List RN):M Bool:=
 cond ((!decide ((a1.length:Int)=(b2.length:Int))))
  (M.pure false)
  (M.bind (M.loop (wta a1 b2) 0) (M.exk (fun _=>
  M.pure true)))
def WU(a1:List PT)(b2:List PT):Int->M (M.Step Int (M.Ex Unit Bool)):=fun i33=>
 cond ((decide (i33 < (a1.length:Int))))
  (M.bind (M.bind (M.idx a1 i33) fun x36=>
  M.bind (M.idx b2 i33) fun x38=>
  cond (!decide (x36.dev=x38.dev))
   (M.pure true)
   (M.bind (M.idx a1 i33) fun x41=>
   M.bind (M.idx b2 i33) fun x43=>
   M.bind (M.det (yma x41.runs x43.runs)) fun v45=>
   M.pure (!v45))) (fun v35=>
  cond v35
   (M.pure (.done (.ret false)))
   (M.pure (.next (IntKind.i64.wrap (i33+1))))))
  (M.pure (.done (.brk ())))
def QO(a1:List PT)(b2:List PT):M Bool:=
 cond ((!decide ((a1.length:Int)=(b2.length:Int))))
  (M.pure false)
  (M.bind (M.loop (WU a1 b2) 0) (M.exk (fun _=>
  M.pure true)))
def ZE(a1:DT)(b2:DT):M Int:=
 cond (((decide (a1.dev=b2.dev)&&decide (a1.n=b2.n))))
  (M.pure 0)
  (M.bind (cond (decide (a1.dev < b2.dev))
   (M.pure true)
   (cond (decide (a1.dev=b2.dev))
    (M.pure (decide (a1.n < b2.n)))
    (M.pure false))) (fun v4=>
  cond v4
   (M.pure (-1))
   (M.pure 1)))
def XJ(l1:List DT)(d2:DT):Int×List DT->M (M.Step (Int×List DT) (List DT)):=fun⟨i26,out27⟩=>
 cond ((decide (i26 < (l1.length:Int))))
  (M.bind (M.bind (M.idx l1 i26) fun x30=>
  M.bind (M.det (ZE x30 d2)) fun v32=>
  cond (decide (v32 < 0))
   (M.bind (M.idx l1 i26) fun x35=>
   M.yM ((out27.length+List.length ([x35]))*16<=140737488355328) <|
   M.pure (out27++[x35]))
   (M.pure out27)) (fun out29=>
  M.pure (.next (((IntKind.i64.wrap (i26+1)),out29)))))
  (M.pure (.done out27))
def ZP(l1:List DT)(d2:DT):Int×List DT->M (M.Step (Int×List DT) (List DT)):=fun⟨i62,out63⟩=>
 cond ((decide (i62 < (l1.length:Int))))
  (M.bind (M.bind (M.idx l1 i62) fun x66=>
  M.bind (M.det (ZE x66 d2)) fun v68=>
  cond (decide (0 < v68))
   (M.bind (M.idx l1 i62) fun x71=>
   M.yM ((out63.length+List.length ([x71]))*16<=140737488355328) <|
   M.pure (out63++[x71]))
   (M.pure out63)) (fun out65=>
  M.pure (.next (((IntKind.i64.wrap (i62+1)),out65)))))
  (M.pure (.done out63))
def ZF(l1:List DT)(d2:DT):M (List DT):=
 M.bind (M.loop (XJ l1 d2) (0,([]:List DT))) (fun out3=>
 M.yM ((out3.length+List.length ([d2]))*16<=140737488355328) <|
 M.bind (M.loop (ZP l1 d2) (0,(out3++[d2]))) (fun out39=>
 M.pure out39))
def Zj(a1:List PT):List DT×Int->M (M.Step (List DT×Int) (List DT)):=fun⟨out16,i17⟩=>
 cond ((decide (i17 < (a1.length:Int))))
  (M.bind (M.idx a1 i17) fun x19=>
  M.bind (M.det (ZF out16 (⟨x19.dev,1⟩:DT))) fun v21=>
  M.pure (.next ((v21,(IntKind.i64.wrap (i17+1))))))
  (M.pure (.done out16))
def uR(b2:List PT):List DT×Int->M (M.Step (List DT×Int) (List DT)):=fun⟨out36,i37⟩=>
 cond ((decide (i37 < (b2.length:Int))))
  (M.bind (M.idx b2 i37) fun x39=>
  M.bind (M.det (ZF out36 (⟨x39.dev,1⟩:DT))) fun v41=>
  M.pure (.next ((v41,(IntKind.i64.wrap (i37+1))))))
  (M.pure (.done out36))
def UA(a1:List PT)(b2:List PT):M (List DT):=
 M.bind (M.loop (Zj a1) (([]:List DT),0)) (fun out3=>
 M.bind (M.loop (uR b2) (out3,0)) (fun out23=>
 M.pure out23))
def Un(x1:RN):M Bool:=
 M.bind (cond (decide (1<=x1.lo))
  (cond (decide (x1.lo<=x1.hi))
   (M.pure (decide (x1.hi<=281474976710655)))
   (M.pure false))
  (M.pure false)) (fun v2=>
 M.pure v2)
def XK(l1:List RN)(n2:Int):Int->M (M.Step Int (M.Ex Unit Bool)):=fun i30=>
 cond ((decide (i30 < (l1.length:Int))))
  (M.bind (M.bind (M.idx l1 i30) fun x33=>
  M.bind (M.det (Un x33)) fun v35=>
  cond v35
   (M.bind (M.idx l1 i30) fun x38=>
   cond (decide (x38.lo<=n2))
    (M.bind (M.idx l1 i30) fun x41=>
    M.pure (decide (n2<=x41.hi)))
    (M.pure false))
   (M.pure false)) (fun v32=>
  cond v32
   (M.pure (.done (.ret true)))
   (M.pure (.next (IntKind.i64.wrap (i30+1))))))
  (M.pure (.done (.brk ())))
def VF(l1:List RN)(n2:Int):M Bool:=
 M.bind (M.loop (XK l1 n2) 0) (M.exk (fun _=>
 M.pure false))
def XL(l1:List Int)(n2:Int):Bool×Int×List Int->M (M.Step (Bool×Int×List Int) (Bool×List Int)):=fun⟨done43,i44,out45⟩=>
 cond ((decide (i44 < (l1.length:Int))))
  (M.bind (M.bind (cond (!done43)
   (M.bind (M.idx l1 i44) fun x51=>
   M.pure (decide (n2<=x51)))
   (M.pure false)) (fun v49=>
  M.bind (cond v49
   (M.yM ((out45.length+List.length ([n2]))*8<=140737488355328) <|
   M.pure (true,(out45++[n2])))
   (M.pure (done43,out45))) (fun⟨done53,out54⟩=>
  M.bind (M.idx l1 i44) fun x57=>
  cond (!decide (x57=n2))
   (M.bind (M.idx l1 i44) fun x60=>
   M.yM ((out54.length+List.length ([x60]))*8<=140737488355328) <|
   M.pure (done53,(out54++[x60])))
   (M.pure (done53,out54))))) (fun⟨done47,out48⟩=>
  M.pure (.next ((done47,(IntKind.i64.wrap (i44+1)),out48)))))
  (M.pure (.done (done43,out45)))
def Uo(l1:List Int)(n2:Int):M (List Int):=
 M.bind (M.loop (XL l1 n2) (false,0,([]:List Int))) (fun⟨done3,out4⟩=>
 M.bind (cond (!done3)
  (M.yM ((out4.length+List.length ([n2]))*8<=140737488355328) <|
  M.pure (out4++[n2]))
  (M.pure out4)) (fun out63=>
 M.pure out63))
def vt(a1:List RN)(b2:List RN):List Int×Int->M (M.Step (List Int×Int) (List Int)):=fun⟨out38,i39⟩=>
 cond ((decide (i39 < (((List.length ((([]:List RN)++a1)++b2)):Int)))))
  (M.bind (M.bind (M.idx (((([]:List RN)++a1)++b2)) i39) fun x42=>
  M.bind (M.det (Un x42)) fun v44=>
  cond v44
   (M.bind (M.idx (((([]:List RN)++a1)++b2)) i39) fun x47=>
   M.bind (M.det (Uo out38 x47.lo)) fun v49=>
   M.bind (M.idx (((([]:List RN)++a1)++b2)) i39) fun x51=>
   M.bind (M.det (Uo v49 (IntKind.u64.wrap (x51.hi+1)))) fun v53=>
   M.pure v53)
   (M.pure out38)) (fun out41=>
  M.pure (.next ((out41,(IntKind.i64.wrap (i39+1)))))))
  (M.pure (.done out38))
def XM(a1:List RN)(b2:List RN):M (List Int):=
 M.yM ((List.length ([]:List RN)+a1.length)*16<=140737488355328) <|
 M.yM ((List.length (([]:List RN)++a1)+b2.length)*16<=140737488355328) <|
 M.bind (M.loop (vt a1 b2) (([]:List Int),0)) (fun out5=>
 M.pure out5)
def XN(v4:List Int)(a1:List RN)(b2:List RN)(how3:Int):Int×List RN->M (M.Step (Int×List RN) (List RN)):=fun⟨i85,out86⟩=>
 cond ((decide ((IntKind.i64.wrap (i85+1)) < (v4.length:Int))))
  (M.bind (M.bind (M.idx v4 i85) fun x89=>
  M.bind (M.det (VF a1 x89)) fun v91=>
  M.bind (M.idx v4 i85) fun x93=>
  M.bind (M.det (VF b2 x93)) fun v95=>
  M.bind (cond v91
   (M.pure true)
   (M.pure v95)) (fun in97=>
  M.bind (cond (decide (how3=1))
   (M.bind (cond v91
    (M.pure v95)
    (M.pure false)) (fun in101=>
   M.pure in101))
   (M.pure in97)) (fun in99=>
  M.bind (cond (decide (how3=2))
   (M.bind (cond v91
    (M.pure (!v95))
    (M.pure false)) (fun in105=>
   M.pure in105))
   (M.pure in99)) (fun in103=>
  M.bind (cond in103
   (cond ((decide (0<=((IntKind.i64.wrap (((out86.length):Int) - 1))))))
    (M.bind (M.idx out86 ((IntKind.i64.wrap (((out86.length):Int) - 1)))) fun x110=>
    M.bind (M.idx v4 i85) fun x112=>
    M.pure ((decide ((IntKind.u64.wrap (x110.hi+1))=x112))))
    (M.pure false))
   (M.pure false)) (fun v107=>
  cond v107
   (M.bind (M.idx v4 (IntKind.i64.wrap (i85+1))) fun x115=>
   M.bind (M.idx out86 ((IntKind.i64.wrap (((out86.length):Int) - 1)))) fun x117=>
   M.pure ((List.set out86 ((Int.toNat ((IntKind.i64.wrap (((out86.length):Int) - 1))))) ((⟨x117.lo,(IntKind.u64.wrap (x115 - 1))⟩:RN)))))
   (cond in103
    (M.bind (M.idx v4 i85) fun x120=>
    M.bind (M.idx v4 (IntKind.i64.wrap (i85+1))) fun x122=>
    M.yM ((out86.length+List.length ([(⟨x120,(IntKind.u64.wrap (x122 - 1))⟩:RN)]))*16<=140737488355328) <|
    M.pure ((out86++[(⟨x120,(IntKind.u64.wrap (x122 - 1))⟩:RN)])))
    (M.pure out86))))))) (fun out88=>
  M.pure (.next (((IntKind.i64.wrap (i85+1)),out88)))))
  (M.pure (.done out86))
def VG(a1:List RN)(b2:List RN)(how3:Int):M (List RN):=
 M.bind (M.det (XM a1 b2)) fun v4=>
 M.bind (M.loop (XN v4 a1 b2 how3) (0,([]:List RN))) (fun out6=>
 M.pure out6)
def WV(a1:List RN)(b2:List RN):M (List RN):=
 M.bind (M.det (VG a1 b2 0)) fun v3=>
 M.pure v3
def Zk(c1:List PT)(dev2:Int):List RN×Int->M (M.Step (List RN×Int) (List RN)):=fun⟨out28,i29⟩=>
 cond ((decide (i29 < (c1.length:Int))))
  (M.bind (M.bind (M.bind (M.idx c1 i29) fun x33=>
  cond (decide (x33.dev=dev2))
   (M.pure (!decide (dev2=0)))
   (M.pure false)) (fun v32=>
  cond v32
   (M.bind (M.idx c1 i29) fun x37=>
   M.bind (M.det (WV out28 x37.runs)) fun v39=>
   M.pure v39)
   (M.pure out28))) (fun out31=>
  M.pure (.next ((out31,(IntKind.i64.wrap (i29+1)))))))
  (M.pure (.done out28))
def XO(c1:List PT)(dev2:Int):M (List RN):=
 M.bind (M.loop (Zk c1 dev2) (([]:List RN),0)) (fun out3=>
 M.pure out3)
def UB(a1:List RN)(b2:List RN):M (List RN):=
 M.bind (M.det (VG a1 b2 1)) fun v3=>
 M.pure v3
def WW(a1:List RN)(b2:List RN):M (List RN):=
 M.bind (M.det (VG a1 b2 2)) fun v3=>
 M.pure v3
def XP(v4:List DT)(a1:List PT)(b2:List PT)(how3:Int):Int×List PT->M (M.Step (Int×List PT) (List PT)):=fun⟨i57,out58⟩=>
 cond ((decide (i57 < (v4.length:Int))))
  (M.bind (M.bind (M.idx v4 i57) fun x61=>
  M.bind (M.det (XO a1 x61.dev)) fun v63=>
  M.bind (M.idx v4 i57) fun x65=>
  M.bind (M.det (XO b2 x65.dev)) fun v67=>
  M.bind (M.det (WV v63 v67)) fun v69=>
  M.bind (cond (decide (how3=1))
   (M.bind (M.det (UB v63 v67)) fun v73=>
   M.pure v73)
   (M.pure v69)) (fun z71=>
  M.bind (cond (decide (how3=2))
   (M.bind (M.det (WW v63 v67)) fun v77=>
   M.pure v77)
   (M.pure z71)) (fun z75=>
  cond ((decide (0 < (z75.length:Int))))
   (M.bind (M.idx v4 i57) fun x80=>
   M.yM ((out58.length+List.length ([(⟨x80.dev,z75⟩:PT)]))*32<=140737488355328) <|
   M.pure (out58++[(⟨x80.dev,z75⟩:PT)]))
   (M.pure out58)))) (fun out60=>
  M.pure (.next (((IntKind.i64.wrap (i57+1)),out60)))))
  (M.pure (.done out58))
def Jj(a1:List PT)(b2:List PT)(how3:Int):M (List PT):=
 M.bind (M.det (UA a1 b2)) fun v4=>
 M.bind (M.loop (XP v4 a1 b2 how3) (0,([]:List PT))) (fun out6=>
 M.pure out6)
def WX(c1:List PT):M (List PT):=
 M.bind (M.det (Jj c1 ([]:List PT) 0)) fun v2=>
 M.pure v2
def WY(c1:List PT):M Bool:=
 M.bind (M.det (WX c1)) fun v2=>
 M.bind (M.det (QO c1 v2)) fun v4=>
 M.pure v4
def vP(d1:DT):M Bool:=
 M.bind (cond (decide (1<=d1.dev))
  (cond (decide (1<=d1.n))
   (M.pure (decide (d1.n < 281474976710656)))
   (M.pure false))
  (M.pure false)) (fun v2=>
 M.pure v2)
def WZ(v1:Int):M (Int×Int):=
 M.pure (((IntKind.u16.wrap (IntKind.u64.wrap (Int.tdiv v1 281474976710656))),(Int.tmod v1 281474976710656)))
def XQ(v1:Int):M (DT×Bool):=
 M.bind (M.det (WZ v1)) fun v2=>
 M.bind (M.det (vP (⟨v2.1,v2.2⟩:DT))) fun v4=>
 cond (!v4)
  (M.pure ((⟨0,0⟩:DT),false))
  (M.pure ((⟨v2.1,v2.2⟩:DT),true))
def UC(f1:Int):M Bool:=
 M.bind (cond (decide (1<=f1))
  (M.pure (decide (f1<=5)))
  (M.pure false)) (fun v2=>
 M.pure v2)
def uS(s1:ByteArray):Int->M (M.Step Int (M.Ex Unit Bool)):=fun i19=>
 cond ((decide (i19 < (ByteArray.size s1:Int))))
  (M.bind (M.bind (M.idx (yV s1) i19) fun b22=>
  cond (decide (b22 < 32))
   (M.pure true)
   (M.bind (M.idx (yV s1) i19) fun b25=>
   M.pure (decide (126 < b25)))) (fun v21=>
  cond v21
   (M.pure (.done (.ret false)))
   (M.pure (.next (IntKind.i64.wrap (i19+1))))))
  (M.pure (.done (.brk ())))
def UD(s1:ByteArray):M Bool:=
 M.bind (M.loop (uS s1) 0) (M.exk (fun _=>
 M.pure ((decide ((ByteArray.size s1:Int)<=60)))))
def xl(l1:List DT):Int->M (M.Step Int (M.Ex Unit Bool)):=fun i19=>
 cond ((decide (i19 < (l1.length:Int))))
  (M.bind (M.idx l1 (IntKind.i64.wrap (i19 - 1))) fun x21=>
  M.bind (M.idx l1 i19) fun x23=>
  M.bind (M.det (ZE x21 x23)) fun v25=>
  cond (decide (0<=v25))
   (M.pure (.done (.ret false)))
   (M.pure (.next (IntKind.i64.wrap (i19+1)))))
  (M.pure (.done (.brk ())))
def XR(l1:List DT):M Bool:=
 M.bind (M.loop (xl l1) 1) (M.exk (fun _=>
 M.pure true))
def XS(l1:List DT)(d2:DT):Int->M (M.Step Int (M.Ex Unit Bool)):=fun i12=>
 cond ((decide (i12 < (l1.length:Int))))
  (M.bind (M.idx l1 i12) fun x14=>
  cond (((decide (x14.dev=d2.dev)&&decide (x14.n=d2.n))))
   (M.pure (.done (.ret true)))
   (M.pure (.next (IntKind.i64.wrap (i12+1)))))
  (M.pure (.done (.brk ())))
def Uq(l1:List DT)(d2:DT):M Bool:=
 M.bind (M.loop (XS l1 d2) 0) (M.exk (fun _=>
 M.pure false))
def uT(e1:EV):Int->M (M.Step Int (M.Ex Unit Bool)):=fun i37=>
 cond ((decide (i37 < (e1.kills.length:Int))))
  (M.bind (M.idx e1.kills i37) fun x39=>
  M.bind (M.det (vP x39)) fun v41=>
  cond (!v41)
   (M.pure (.done (.ret false)))
   (M.pure (.next (IntKind.i64.wrap (i37+1)))))
  (M.pure (.done (.brk ())))
def UE(e1:EV):M Bool:=
 M.bind (M.det (XQ e1.cid)) fun v2=>
 M.bind (cond (!v2.2)
  (M.pure true)
  (M.bind (M.det (vP e1.dot)) fun v6=>
  cond (!v6)
   (M.pure true)
   (cond (!decide (e1.kind=1))
    (M.pure (!decide (e1.kind=2)))
    (M.pure false)))) (fun v4=>
 cond v4
  (M.pure false)
  (M.bind (cond (decide (e1.kind=1))
   (M.bind (M.det (UC e1.field)) fun v13=>
   cond (!v13)
    (M.pure true)
    (M.bind (M.det (UD e1.text)) fun v16=>
    cond (!v16)
     (M.pure true)
     (cond (decide (e1.kind=2))
      (cond (!decide (e1.field=0))
       (M.pure true)
       (M.pure ((!decide (e1.text=(⟨#[]⟩:ByteArray))))))
      (M.pure false))))
   (cond (decide (e1.kind=2))
    (cond (!decide (e1.field=0))
     (M.pure true)
     (M.pure ((!decide (e1.text=(⟨#[]⟩:ByteArray))))))
    (M.pure false))) (fun v11=>
  cond v11
   (M.pure false)
   (M.bind (M.loop (uT e1) 0) (M.exk (fun _=>
   M.bind (cond ((decide ((e1.kills.length:Int)<=256)))
    (M.bind (M.det (XR e1.kills)) fun v46=>
    cond v46
     (M.bind (M.det (Uq e1.kills e1.dot)) fun v49=>
     M.pure (!v49))
     (M.pure false))
    (M.pure false)) (fun v44=>
   M.pure v44)))))))
def Zl(l1:List EV)(d2:DT):Int->M (M.Step Int (M.Ex Unit Bool)):=fun i_16=>
 cond ((decide (i_16 < (l1.length:Int))))
  (M.bind (M.idx l1 i_16) fun x18=>
  M.bind (M.det (Uq x18.kills d2)) fun v20=>
  cond v20
   (M.pure (.done (.ret true)))
   (M.pure (.next (IntKind.i64.wrap (i_16+1)))))
  (M.pure (.done (.brk ())))
def Wa(l1:List EV)(d2:DT):M Bool:=
 M.bind (M.loop (Zl l1 d2) 0) (M.exk (fun _=>
 M.pure false))
def Jk(c1:List PT)(d2:DT):M Bool:=
 M.bind (M.bind (M.det (vP d2)) fun v4=>
 cond v4
  (M.bind (M.det (XO c1 d2.dev)) fun v7=>
  M.bind (M.det (VF v7 d2.n)) fun v9=>
  M.pure v9)
  (M.pure false)) (fun v3=>
 M.pure v3)
def Zm(l1:List DT)(c2:List PT):List DT×Int->M (M.Step (List DT×Int) (List DT)):=fun⟨out28,i29⟩=>
 cond ((decide (i29 < (l1.length:Int))))
  (M.bind (M.bind (M.idx l1 i29) fun x32=>
  M.bind (M.det (Jk c2 x32)) fun v34=>
  cond (!v34)
   (M.bind (M.idx l1 i29) fun x37=>
   M.bind (M.det (ZF out28 x37)) fun v39=>
   M.pure v39)
   (M.pure out28)) (fun out31=>
  M.pure (.next ((out31,(IntKind.i64.wrap (i29+1)))))))
  (M.pure (.done out28))
def UF(l1:List DT)(c2:List PT):M (List DT):=
 M.bind (M.loop (Zm l1 c2) (([]:List DT),0)) (fun out3=>
 M.pure out3)
def uU(l1:List EV)(i80:Int):List DT×Int->M (M.Step (List DT×Int) (List DT)):=fun⟨out107,k108⟩=>
 M.bind (M.idx l1 i80) fun x109=>
 cond ((decide (k108 < (x109.kills.length:Int))))
  (M.bind (M.idx l1 i80) fun x112=>
  M.bind (M.idx x112.kills k108) fun x114=>
  M.bind (M.det (ZF out107 x114)) fun v116=>
  M.pure (.next ((v116,(IntKind.i64.wrap (k108+1))))))
  (M.pure (.done out107))
def Zn(l1:List EV):List DT×Int->M (M.Step (List DT×Int) (List DT)):=fun⟨out79,i80⟩=>
 cond ((decide (i80 < (l1.length:Int))))
  (M.bind (M.bind (M.idx l1 i80) fun x83=>
  M.bind (M.det (ZF out79 x83.dot)) fun v85=>
  M.loop (uU l1 i80) (v85,0)) (fun out82=>
  M.pure (.next ((out82,(IntKind.i64.wrap (i80+1)))))))
  (M.pure (.done out79))
def UG(l1:List EV):M (List DT):=
 M.bind (M.loop (Zn l1) (([]:List DT),0)) (fun out2=>
 M.pure out2)
def Zo(l2:List EV):Int->M (M.Step Int (M.Ex Unit Bool)):=fun i_64=>
 cond ((decide (i_64 < (l2.length:Int))))
  (M.bind (M.bind (M.idx l2 i_64) fun x67=>
  M.bind (M.det (UE x67)) fun v69=>
  cond (!v69)
   (M.pure true)
   (cond (decide (0 < i_64))
    (M.bind (M.idx l2 (IntKind.i64.wrap (i_64 - 1))) fun x73=>
    M.bind (M.idx l2 i_64) fun x75=>
    M.bind (M.det (ZE x73.dot x75.dot)) fun v77=>
    cond (decide (0<=v77))
     (M.pure true)
     (M.bind (M.idx l2 i_64) fun x80=>
     cond (decide (x80.kind=1))
      (M.bind (M.idx l2 i_64) fun x83=>
      M.bind (M.det (Wa l2 x83.dot)) fun v85=>
      M.pure v85)
      (M.pure false)))
    (M.bind (M.idx l2 i_64) fun x87=>
    cond (decide (x87.kind=1))
     (M.bind (M.idx l2 i_64) fun x90=>
     M.bind (M.det (Wa l2 x90.dot)) fun v92=>
     M.pure v92)
     (M.pure false)))) (fun v66=>
  cond v66
   (M.pure (.done (.ret false)))
   (M.pure (.next (IntKind.i64.wrap (i_64+1))))))
  (M.pure (.done (.brk ())))
def UH(c1:List PT)(l2:List EV):M Bool:=
 M.bind (M.loop (Zo l2) 0) (M.exk (fun _=>
 M.bind (M.bind (M.det (WY c1)) fun v96=>
 cond v96
  (M.bind (M.det (UG l2)) fun v99=>
  M.bind (M.det (UF v99 c1)) fun v101=>
  M.pure ((decide ((v101.length:Int)=0))))
  (M.pure false)) (fun v95=>
 M.pure v95)))
def Xt(s1:THubState):Int×A16->M (M.Step (Int×A16) A16):=fun⟨i21,ar22⟩=>
 cond (decide (i21 < 16))
  (M.bind (M.idx s1.tries i21) fun x24=>
  M.yM ((0:Int)<=i21/\i21 < ((16:Nat):Int)) <|
  M.pure (.next (((IntKind.i64.wrap (i21+1)),(AR.set ar22 (Int.toNat i21) x24)))))
  (M.pure (.done ar22))
def Xu(s1:THubState):Int×List R25Row->M (M.Step (Int×List R25Row) (M.Ex (List R25Row) (R33Center×Bool))):=fun⟨i66,c67⟩=>
 cond ((decide (i66 < (s1.rows.length:Int))))
  (M.bind (M.bind (M.idx s1.rows i66) fun x70=>
  M.bind (M.idx s1.members i66) fun x72=>
  cond (!decide (x70.who=x72.dev))
   (M.pure true)
   (M.bind (M.idx s1.rows i66) fun x75=>
   M.bind (M.det (WY x75.have_)) fun v77=>
   M.pure (!v77))) (fun v69=>
  cond v69
   (M.pure (.done ((.ret ((((⟨(⟨0,0,([]:List TMember),(0,0,0,0,0,0,0,0,0,0,0,0,0,0,0,0)⟩:R26Roster),([]:List R25Row),(⟨([]:List PT),([]:List EV)⟩:RB)⟩:R33Center),false)))))))
   (M.yM ((List.length ([]:List R25Row)+c67.length)*32<=140737488355328) <|
   M.bind (M.idx s1.rows i66) fun x81=>
   M.bind (M.idx s1.rows i66) fun x83=>
   M.yM ((List.length (([]:List R25Row)++c67)+List.length ([(⟨x81.who,x83.have_⟩:R25Row)]))*32<=140737488355328) <|
   M.pure (.next (((IntKind.i64.wrap (i66+1)),((([]:List R25Row)++c67)++[(⟨x81.who,x83.have_⟩:R25Row)])))))))
  (M.pure (.done (.brk c67)))
def UI(s1:THubState):M (R33Center×Bool):=
 M.bind (M.bind (M.det (Vz s1.epoch s1.last s1.members s1.tries)) fun v3=>
 cond (!v3)
  (M.pure true)
  (M.bind (M.det (UH s1.ctx s1.all)) fun v6=>
  cond (!v6)
   (M.pure true)
   (M.pure ((!decide ((s1.rows.length:Int)=(s1.members.length:Int))))))) (fun v2=>
 cond v2
  (M.pure (((⟨(⟨0,0,([]:List TMember),(0,0,0,0,0,0,0,0,0,0,0,0,0,0,0,0)⟩:R26Roster),([]:List R25Row),(⟨([]:List PT),([]:List EV)⟩:RB)⟩:R33Center),false)))
  (M.bind (M.loop (Xt s1) (0,(0,0,0,0,0,0,0,0,0,0,0,0,0,0,0,0))) (fun ar10=>
  M.bind (M.loop (Xu s1) (0,([]:List R25Row))) (M.exk (fun c27=>
  M.pure (((⟨(⟨s1.epoch,s1.last,s1.members,ar10⟩:R26Roster),c27,(⟨s1.ctx,s1.all⟩:RB)⟩:R33Center),true)))))))
def XT :Int×Int->M (M.Step (Int×Int) Int):=fun⟨v7,n8⟩=>
 cond (decide (0 < v7))
  (M.pure (.next (((IntKind.u64.wrap (Int.tdiv v7 256)),(IntKind.i64.wrap (n8+1))))))
  (M.pure (.done n8))
def Jl(v1:Int):M Int:=
 M.bind (M.loop XT (v1,0)) (fun n2=>
 M.pure n2)
def vF(i2:Int):Int×Int->M (M.Step (Int×Int) Int):=fun⟨v11,k12⟩=>
 cond (decide (k12 < i2))
  (M.pure (.next (((IntKind.u64.wrap (Int.tdiv v11 256)),(IntKind.i64.wrap (k12+1))))))
  (M.pure (.done v11))
def UJ(v1:Int)(i2:Int):M Int:=
 M.bind (cond (decide (i2 < 0))
  (M.pure true)
  (M.pure (decide (7 < i2)))) (fun v3=>
 cond v3
  (M.pure 0)
  (M.bind (M.loop (vF i2) (v1,0)) (fun v6=>
  M.pure (IntKind.u8.wrap (Int.tmod v6 256)))))
def vu(v2:Int):Int×List Int->M (M.Step (Int×List Int) (List Int)):=fun⟨i18,v19⟩=>
 cond (decide (0<=i18))
  (M.bind (M.det (UJ v2 i18)) fun v21=>
  M.yM ((v19.length+List.length ([v21]))*1<=140737488355328) <|
  M.pure (.next (((IntKind.i64.wrap (i18 - 1)),(v19++[v21])))))
  (M.pure (.done v19))
def zl(b1:List Int)(v2:Int):M (List Int):=
 M.yM ((List.length ([]:List Int)+b1.length)*1<=140737488355328) <|
 M.bind (M.det (Jl v2)) fun v4=>
 M.yM ((List.length (([]:List Int)++b1)+List.length ([(IntKind.u8.wrap v4)]))*1<=140737488355328) <|
 M.bind (M.loop (vu v2) (((IntKind.i64.wrap (v4 - 1)),((([]:List Int)++b1)++[(IntKind.u8.wrap v4)])))) (fun v7=>
 M.pure v7)
def vv(v3:List PT)(i129:Int):List Int×Int->M (M.Step (List Int×Int) (List Int)):=fun⟨out172,k173⟩=>
 M.bind (M.idx v3 i129) fun x174=>
 cond ((decide (k173 < (x174.runs.length:Int))))
  (M.bind (M.idx v3 i129) fun x177=>
  M.bind (M.idx x177.runs k173) fun x179=>
  M.bind (M.det (zl out172 x179.lo)) fun v181=>
  M.bind (M.idx v3 i129) fun x183=>
  M.bind (M.idx x183.runs k173) fun x185=>
  M.bind (M.det (zl v181 x185.hi)) fun v187=>
  M.pure (.next ((v187,(IntKind.i64.wrap (k173+1))))))
  (M.pure (.done out172))
def vw(v3:List PT):List Int×Int->M (M.Step (List Int×Int) (List Int)):=fun⟨out128,i129⟩=>
 cond ((decide (i129 < ((v3.length):Int))))
  (M.bind (M.bind (M.idx v3 i129) fun x132=>
  M.bind (M.det (zl out128 (IntKind.u64.wrap x132.dev))) fun v134=>
  M.bind (M.idx v3 i129) fun x136=>
  M.bind (M.det (zl v134 (IntKind.u64.wrap (x136.runs.length:Int)))) fun v138=>
  M.loop (vv v3 i129) (v138,0)) (fun out131=>
  M.pure (.next ((out131,(IntKind.i64.wrap (i129+1)))))))
  (M.pure (.done out128))
def uG(b1:List Int)(c2:List PT):M (List Int):=
 M.bind (M.det (WX c2)) fun v3=>
 M.bind (M.det (zl b1 ((IntKind.u64.wrap ((v3.length):Int))))) fun v5=>
 M.bind (M.loop (vw v3) (v5,0)) (fun out7=>
 M.pure out7)
def ZQ(b1:List Int)(d2:DT):M (List Int):=
 M.bind (M.det (zl b1 (IntKind.u64.wrap d2.dev))) fun v3=>
 M.bind (M.det (zl v3 d2.n)) fun v5=>
 M.pure v5
def Zp(s2:ByteArray):Int×List Int->M (M.Step (Int×List Int) (List Int)):=fun⟨i_16,v17⟩=>
 cond ((decide (i_16 < (ByteArray.size s2:Int))))
  (M.bind (M.idx (yV s2) i_16) fun b19=>
  M.yM ((v17.length+List.length ([b19]))*1<=140737488355328) <|
  M.pure (.next (((IntKind.i64.wrap (i_16+1)),(v17++[b19])))))
  (M.pure (.done v17))
def UK(b1:List Int)(s2:ByteArray):M (List Int):=
 M.bind (M.det (zl b1 (IntKind.u64.wrap (ByteArray.size s2:Int)))) fun v3=>
 M.bind (M.loop (Zp s2) (0,v3)) (fun v5=>
 M.pure v5)
def xy(l2:List DT):List DT×Int->M (M.Step (List DT×Int) (List DT)):=fun⟨some28,i29⟩=>
 cond ((decide (i29 < (l2.length:Int))))
  (M.bind (M.bind (M.idx l2 i29) fun x32=>
  M.bind (M.det (vP x32)) fun v34=>
  cond v34
   (M.bind (M.idx l2 i29) fun x37=>
   M.bind (M.det (ZF some28 x37)) fun v39=>
   M.pure v39)
   (M.pure some28)) (fun some31=>
  M.pure (.next ((some31,(IntKind.i64.wrap (i29+1)))))))
  (M.pure (.done some28))
def vQ(some3:List DT):List Int×Int->M (M.Step (List Int×Int) (List Int)):=fun⟨out56,i57⟩=>
 cond ((decide (i57 < (some3.length:Int))))
  (M.bind (M.idx some3 i57) fun x59=>
  M.bind (M.det (ZQ out56 x59)) fun v61=>
  M.pure (.next ((v61,(IntKind.i64.wrap (i57+1))))))
  (M.pure (.done out56))
def Zq(b1:List Int)(l2:List DT):M (List Int):=
 M.bind (M.loop (xy l2) (([]:List DT),0)) (fun some3=>
 M.bind (M.det (zl b1 (IntKind.u64.wrap (some3.length:Int)))) fun v41=>
 M.bind (M.loop (vQ some3) (v41,0)) (fun out43=>
 M.pure out43))
def Jm(b1:List Int)(e2:EV):M (List Int):=
 M.bind (M.det (ZQ b1 e2.dot)) fun v3=>
 M.yM ((v3.length+List.length ([e2.kind]))*1<=140737488355328) <|
 M.bind (M.det (zl (v3++[e2.kind]) e2.cid)) fun v6=>
 M.yM ((v6.length+List.length ([e2.field]))*1<=140737488355328) <|
 M.bind (M.det (UK (v6++[e2.field]) e2.text)) fun v9=>
 M.bind (M.det (Zq v9 e2.kills)) fun v11=>
 M.pure v11
def vy(l2:List EV):List Int×Int->M (M.Step (List Int×Int) (List Int)):=fun⟨out18,i19⟩=>
 cond ((decide (i19 < (l2.length:Int))))
  (M.bind (M.idx l2 i19) fun x21=>
  M.bind (M.det (Jm out18 x21)) fun v23=>
  M.pure (.next ((v23,(IntKind.i64.wrap (i19+1))))))
  (M.pure (.done out18))
def XU(b1:List Int)(l2:List EV):M (List Int):=
 M.bind (M.det (zl b1 (IntKind.u64.wrap (l2.length:Int)))) fun v3=>
 M.bind (M.loop (vy l2) (v3,0)) (fun out5=>
 M.pure out5)
def VH(s1:THubState):List Int×Int->M (M.Step (List Int×Int) (List Int)):=fun⟨b40,i41⟩=>
 cond ((decide (i41 < (s1.members.length:Int))))
  (M.bind (M.idx s1.members i41) fun x43=>
  M.bind (M.det (zl b40 (IntKind.u64.wrap x43.dev))) fun v45=>
  M.bind (M.idx s1.members i41) fun x47=>
  M.yM ((v45.length+List.length ([x47.slot]))*1<=140737488355328) <|
  M.bind (M.idx s1.members i41) fun x50=>
  M.bind (M.det (zl (v45++[x47.slot]) x50.try_)) fun v52=>
  M.pure (.next ((v52,(IntKind.i64.wrap (i41+1))))))
  (M.pure (.done b40))
def VI(s1:THubState):List Int×Int->M (M.Step (List Int×Int) (List Int)):=fun⟨b67,i68⟩=>
 cond ((decide (i68 < (s1.tries.length:Int))))
  (M.bind (M.idx s1.tries i68) fun x70=>
  M.bind (M.det (zl b67 x70)) fun v72=>
  M.pure (.next ((v72,(IntKind.i64.wrap (i68+1))))))
  (M.pure (.done b67))
def VJ(s1:THubState):List Int×Int->M (M.Step (List Int×Int) (List Int)):=fun⟨b87,i88⟩=>
 cond ((decide (i88 < (s1.rows.length:Int))))
  (M.bind (M.idx s1.rows i88) fun x90=>
  M.bind (M.det (uG b87 x90.have_)) fun v92=>
  M.pure (.next ((v92,(IntKind.i64.wrap (i88+1))))))
  (M.pure (.done b87))
def Jo(s1:THubState):M (List Int×Int):=
 M.bind (M.det (UI s1)) fun v2=>
 M.bind (cond (!v2.2)
  (M.pure true)
  (M.pure ((decide (4096 < (s1.all.length:Int)))))) (fun v4=>
 cond v4
  (M.pure (([]:List Int),1))
  (M.bind (M.det (zl ([]:List Int) s1.epoch)) fun v7=>
  M.bind (M.det (zl v7 (IntKind.u64.wrap s1.last))) fun v9=>
  M.bind (M.det (zl v9 (IntKind.u64.wrap (s1.members.length:Int)))) fun v11=>
  M.bind (M.loop (VH s1) (v11,0)) (fun b13=>
  M.bind (M.loop (VI s1) (b13,0)) (fun b54=>
  M.bind (M.loop (VJ s1) (b54,0)) (fun b74=>
  M.bind (M.det (uG b74 s1.ctx)) fun v94=>
  M.bind (M.det (XU v94 s1.all)) fun v96=>
  M.pure (v96,0))))))
def vz(s1:THubState):M Bool:=
 M.bind (M.det (Jh s1)) fun v2=>
 cond (!v2)
  (M.bind (M.det (Yc)) fun v5=>
  M.pure v5)
  (M.bind (M.det (YY s1)) fun v7=>
  M.bind (M.det (Jo s1)) fun v9=>
  M.bind (M.bind (M.det (ZN v7.1 v9.1)) fun v12=>
  cond v12
   (cond (decide (v7.2=v9.2))
    (M.bind (M.det (Yc)) fun v16=>
    M.pure v16)
    (M.pure false))
   (M.pure false)) (fun v11=>
  M.pure v11))
def uV(x7:Int)(at2:Int)(b1:List Int):Int×Int->M (M.Step (Int×Int) Int):=fun⟨v28,v29⟩=>
 cond ((decide (v29 < ((List.length ((List.drop (Int.toNat 0) (List.take (Int.toNat (IntKind.i64.wrap x7)) ((List.drop (Int.toNat (IntKind.i64.wrap (at2+1))) (List.take (Int.toNat (b1.length:Int)) b1)))))):Int)))))
  (M.bind (M.idx ((List.drop (Int.toNat 0) (List.take (Int.toNat (IntKind.i64.wrap x7)) ((List.drop (Int.toNat (IntKind.i64.wrap (at2+1))) (List.take (Int.toNat (b1.length:Int)) b1)))))) v29) fun x31=>
  M.pure (.next (((bOr .u64 (IntKind.u64.wrap (v28*2 ^ 8)) (IntKind.u64.wrap x31)),(IntKind.i64.wrap (v29+1))))))
  (M.pure (.done v28))
def Jp(b1:List Int)(at2:Int):M (Int×Int×Int):=
 M.bind (cond (decide (at2 < 0))
  (M.pure true)
  (M.pure ((decide ((b1.length:Int) < at2))))) (fun v3=>
 cond v3
  (M.pure (0,0,1))
  (cond ((decide (at2=(b1.length:Int))))
   (M.pure (0,0,2))
   (M.bind (M.idx b1 at2) fun x7=>
   M.yM ((0:Int)<=(IntKind.i64.wrap (at2+1))/\((IntKind.i64.wrap (at2+1)):Int)<=(b1.length:Int)/\(b1.length:Int)<=(b1.length:Int)) <|
   M.bind (cond ((decide (8 < (IntKind.i64.wrap x7))))
    (M.pure true)
    (cond ((decide (0 < (IntKind.i64.wrap x7))))
     (cond ((decide (0 < ((List.length ((List.drop (Int.toNat (IntKind.i64.wrap (at2+1))) (List.take (Int.toNat (b1.length:Int)) b1))):Int)))))
      (M.bind (M.idx ((List.drop (Int.toNat (IntKind.i64.wrap (at2+1))) (List.take (Int.toNat (b1.length:Int)) b1))) 0) fun x14=>
      M.pure (decide (x14=0)))
      (M.pure false))
     (M.pure false))) (fun v10=>
   cond v10
    (M.pure (0,0,4))
    (cond ((decide (((List.length ((List.drop (Int.toNat (IntKind.i64.wrap (at2+1))) (List.take (Int.toNat (b1.length:Int)) b1))):Int)) < (IntKind.i64.wrap x7))))
     (M.pure (0,0,2))
     (M.yM ((0:Int)<=0/\(0:Int)<=(IntKind.i64.wrap x7)/\(IntKind.i64.wrap x7)<=(List.length ((List.drop (Int.toNat (IntKind.i64.wrap (at2+1))) (List.take (Int.toNat (b1.length:Int)) b1))):Int)) <|
     M.bind (M.loop (uV x7 at2 b1) (0,0)) (fun v19=>
     M.pure ((v19,(IntKind.i64.wrap ((IntKind.i64.wrap (at2+1))+(IntKind.i64.wrap x7))),0)))))))))
def yI(b_1:List Int)(bad_2:Int):M (Int×List Int×Int):=
 M.pure (bad_2,b_1,bad_2)
def zX(e1:Int)(b_2:List Int)(bad_3:Int):M (List Int×Int):=
 M.bind (cond (decide (bad_3=0))
  (M.pure (!decide (e1=0)))
  (M.pure false)) (fun v4=>
 cond v4
  (M.pure (([]:List Int),e1))
  (M.pure (b_2,bad_3)))
def wI(n1:Int)(b_2:List Int)(bad_3:Int):M (List Int×List Int×Int):=
 M.yM ((0:Int)<=0/\(0:Int)<=n1/\n1<=(b_2.length:Int)) <|
 M.yM ((0:Int)<=n1/\(n1:Int)<=(b_2.length:Int)/\(b_2.length:Int)<=(b_2.length:Int)) <|
 M.pure (((List.drop (Int.toNat 0) (List.take (Int.toNat n1) b_2)),(List.drop (Int.toNat n1) (List.take (Int.toNat (b_2.length:Int)) b_2)),bad_3))
def yb(b_1:List Int)(bad_2:Int):M (Int×List Int×Int):=
 M.bind (M.det (yI b_1 bad_2)) fun y3=>
 cond (!decide (y3.1=0))
  (M.pure (0,y3.2.1,y3.2.2))
  (M.bind (M.det (Jp y3.2.1 0)) fun v6=>
  cond (!decide (v6.2.2=0))
   (M.bind (M.det (zX v6.2.2 y3.2.1 y3.2.2)) fun y9=>
   M.pure (0,y9.1,y9.2))
   (M.bind (M.det (wI v6.2.1 y3.2.1 y3.2.2)) fun y11=>
   M.pure (v6.1,y11.2.1,y11.2.2)))
def wv(most1:Int)(b_2:List Int)(bad_3:Int):M (Int×List Int×Int):=
 M.bind (M.det (yb b_2 bad_3)) fun y4=>
 cond (decide (most1 < y4.1))
  (M.bind (M.det (zX 4 y4.2.1 y4.2.2)) fun y7=>
  M.pure (0,y7.1,y7.2))
  (M.pure (y4.1,y4.2.1,y4.2.2))
def YC(b_1:List Int)(bad_2:Int):M (Int×List Int×Int):=
 M.pure ((b_1.length:Int),b_1,bad_2)
def ww(b_1:List Int)(bad_2:Int):M (Int×List Int×Int):=
 M.bind (M.det (YC b_1 bad_2)) fun y3=>
 M.pure (y3.1,y3.2.1,y3.2.2)
def Xv(b_1:List Int)(bad_2:Int):M (DT×List Int×Int):=
 M.bind (M.det (wv 65535 b_1 bad_2)) fun y3=>
 M.bind (M.det (yb y3.2.1 y3.2.2)) fun y5=>
 M.bind (M.det (uv (⟨(IntKind.u16.wrap y3.1),y5.1⟩:DT))) fun v7=>
 M.bind (cond (!v7)
  (M.bind (M.det (zX 4 y5.2.1 y5.2.2)) fun y12=>
  M.pure (y12.1,y12.2))
  (M.pure (y5.2.1,y5.2.2))) (fun⟨v9,v10⟩=>
 M.bind (M.det (yI v9 v10)) fun y14=>
 cond (!decide (y14.1=0))
  (M.pure ((⟨0,0⟩:DT),y14.2.1,y14.2.2))
  (M.pure (((⟨(IntKind.u16.wrap y3.1),y5.1⟩:DT),y14.2.1,y14.2.2))))
def uy(most1:Int)(b_2:List Int)(bad_3:Int):M (ByteArray×List Int×Int):=
 M.bind (M.det (yb b_2 bad_3)) fun y4=>
 M.bind (M.det (yI y4.2.1 y4.2.2)) fun y6=>
 cond (!decide (y6.1=0))
  (M.pure ((⟨#[]⟩:ByteArray),y6.2.1,y6.2.2))
  (cond ((decide ((IntKind.u64.wrap (max most1 0)) < y4.1)))
   (M.bind (M.det (zX 3 y6.2.1 y6.2.2)) fun y10=>
   M.pure ((⟨#[]⟩:ByteArray),y10.1,y10.2))
   (M.bind (M.det (ww y6.2.1 y6.2.2)) fun y12=>
   cond ((decide ((IntKind.u64.wrap y12.1) < y4.1)))
    (M.bind (M.det (zX 2 y12.2.1 y12.2.2)) fun y15=>
    M.pure ((⟨#[]⟩:ByteArray),y15.1,y15.2))
    (M.bind (M.det (wI (IntKind.i64.wrap y4.1) y12.2.1 y12.2.2)) fun y17=>
    M.pure ((yaa y17.1),y17.2.1,y17.2.2))))
def yz(y4:Int×List Int×Int):Int×List DT×List Int×Int->M (M.Step (Int×List DT×List Int×Int) (M.Ex (List DT×List Int×Int) (List DT×List Int×Int))):=fun⟨v52,out53,v54,v55⟩=>
 cond (decide (v52 < y4.1))
  (M.bind (M.det (Xv v54 v55)) fun y57=>
  M.bind (cond ((decide (0<=((IntKind.i64.wrap (((out53.length):Int) - 1))))))
   (M.bind (M.idx out53 ((IntKind.i64.wrap (((out53.length):Int) - 1)))) fun x61=>
   M.bind (M.det (Zg x61 y57.1)) fun v63=>
   M.pure (decide (0<=v63)))
   (M.pure false)) (fun v59=>
  M.bind (cond v59
   (M.bind (M.det (zX 4 y57.2.1 y57.2.2)) fun y68=>
   M.pure (y68.1,y68.2))
   (M.pure (y57.2.1,y57.2.2))) (fun⟨v65,v66⟩=>
  M.bind (M.det (yI v65 v66)) fun y70=>
  cond (!decide (y70.1=0))
   (M.pure (.done ((.ret (([]:List DT),y70.2.1,y70.2.2)))))
   (M.yM ((out53.length+List.length ([y57.1]))*16<=140737488355328) <|
   M.pure (.next (((IntKind.u64.wrap (v52+1)),(out53++[y57.1]),y70.2.1,y70.2.2)))))))
  (M.pure (.done (.brk (out53,v54,v55))))
def Vf(most1:Int)(b_2:List Int)(bad_3:Int):M (List DT×List Int×Int):=
 M.bind (M.det (yb b_2 bad_3)) fun y4=>
 cond ((decide ((IntKind.u64.wrap (max most1 0)) < y4.1)))
  (M.bind (M.det (zX 3 y4.2.1 y4.2.2)) fun y7=>
  M.pure (([]:List DT),y7.1,y7.2))
  (M.bind (M.loop (yz y4) (0,([]:List DT),y4.2.1,y4.2.2)) (M.exk (fun⟨out9,v10,v11⟩=>
  M.pure (out9,v10,v11))))
def uW(x7:Int)(b1:List Int)(at2:Int):Int×Int->M (M.Step (Int×Int) Int):=fun⟨v26,i27⟩=>
 cond ((decide (i27<=(IntKind.i64.wrap x7))))
  (M.bind (M.idx b1 (IntKind.i64.wrap (at2+i27))) fun x29=>
  M.pure (.next (((IntKind.u64.wrap ((IntKind.u64.wrap (v26*256))+(IntKind.u64.wrap x29))),(IntKind.i64.wrap (i27+1))))))
  (M.pure (.done v26))
def Jq(b1:List Int)(at2:Int):M (Int×Int×Int):=
 M.bind (cond (decide (at2 < 0))
  (M.pure true)
  (M.pure ((decide ((b1.length:Int) < at2))))) (fun v3=>
 cond v3
  (M.pure (0,0,1))
  (cond ((decide (at2=(b1.length:Int))))
   (M.pure (0,0,2))
   (M.bind (M.idx b1 at2) fun x7=>
   M.bind (cond ((decide (8 < (IntKind.i64.wrap x7))))
    (M.pure true)
    (cond ((decide (0 < (IntKind.i64.wrap x7))))
     (cond ((decide (0 < ((IntKind.i64.wrap (((IntKind.i64.wrap ((b1.length:Int) - at2))) - 1))))))
      (M.bind (M.idx b1 (IntKind.i64.wrap (at2+1))) fun x13=>
      M.pure (decide (x13=0)))
      (M.pure false))
     (M.pure false))) (fun v9=>
   cond v9
    (M.pure (0,0,4))
    (cond ((decide (((IntKind.i64.wrap (((IntKind.i64.wrap ((b1.length:Int) - at2))) - 1))) < (IntKind.i64.wrap x7))))
     (M.pure (0,0,2))
     (M.bind (M.loop (uW x7 b1 at2) (0,1)) (fun v17=>
     M.pure ((v17,(IntKind.i64.wrap ((IntKind.i64.wrap (at2+1))+(IntKind.i64.wrap x7))),0)))))))))
def zS(e1:Int)(b_2:List Int)(at_3:Int)(bad_4:Int):M (List Int×Int×Int):=
 cond (decide (bad_4=0))
  (M.pure (b_2,at_3,e1))
  (M.pure (b_2,at_3,bad_4))
def zw(b_1:List Int)(at_2:Int)(bad_3:Int):M (Int×List Int×Int×Int):=
 cond (!decide (bad_3=0))
  (M.pure (0,b_1,at_2,bad_3))
  (M.bind (M.det (Jq b_1 at_2)) fun v5=>
  cond (!decide (v5.2.2=0))
   (M.bind (M.det (zS v5.2.2 b_1 at_2 bad_3)) fun y8=>
   M.pure (0,y8.1,y8.2.1,y8.2.2))
   (M.pure (v5.1,b_1,v5.2.1,bad_3)))
def yg(most1:Int)(b_2:List Int)(at_3:Int)(bad_4:Int):M (Int×List Int×Int×Int):=
 M.bind (M.det (zw b_2 at_3 bad_4)) fun y5=>
 cond (decide (most1 < y5.1))
  (M.bind (M.det (zS 4 y5.2.1 y5.2.2.1 y5.2.2.2)) fun y8=>
  M.pure (0,y8.1,y8.2.1,y8.2.2))
  (M.pure (y5.1,y5.2.1,y5.2.2.1,y5.2.2.2))
def Ur(b_1:List Int)(at_2:Int)(bad_3:Int):M (DT×List Int×Int×Int):=
 M.bind (M.det (yg 65535 b_1 at_2 bad_3)) fun y4=>
 M.bind (M.det (zw y4.2.1 y4.2.2.1 y4.2.2.2)) fun y6=>
 M.bind (cond (decide (y6.2.2.2=0))
  (M.bind (M.det (vP (⟨(IntKind.u16.wrap y4.1),y6.1⟩:DT))) fun v10=>
  M.pure (!v10))
  (M.pure false)) (fun v8=>
 M.bind (cond v8
  (M.bind (M.det (zS 4 y6.2.1 y6.2.2.1 y6.2.2.2)) fun y16=>
  M.pure (y16.1,y16.2.1,y16.2.2))
  (M.pure (y6.2.1,y6.2.2.1,y6.2.2.2))) (fun⟨v12,v13,v14⟩=>
 cond (!decide (v14=0))
  (M.pure ((⟨0,0⟩:DT),v12,v13,v14))
  (M.pure (((⟨(IntKind.u16.wrap y4.1),y6.1⟩:DT),v12,v13,v14)))))
def yY(y7:Int×List Int×Int×Int):Int×List DT×List Int×Int×Int->M (M.Step (Int×List DT×List Int×Int×Int) (List DT×List Int×Int×Int)):=fun⟨i62,out63,v64,v65,v66⟩=>
 M.bind (cond (decide (i62 < y7.1))
  (M.pure (decide (v66=0)))
  (M.pure false)) (fun v67=>
 cond v67
  (M.bind (M.det (Ur v64 v65 v66)) fun y70=>
  M.bind (cond (decide (y70.2.2.2=0))
   (cond ((decide (0<=((IntKind.i64.wrap (((out63.length):Int) - 1))))))
    (M.bind (M.idx out63 ((IntKind.i64.wrap (((out63.length):Int) - 1)))) fun x75=>
    M.bind (M.det (ZE x75 y70.1)) fun v77=>
    M.pure (decide (0<=v77)))
    (M.pure false))
   (M.pure false)) (fun v72=>
  M.bind (cond v72
   (M.bind (M.det (zS 4 y70.2.1 y70.2.2.1 y70.2.2.2)) fun y83=>
   M.pure (y83.1,y83.2.1,y83.2.2))
   (M.pure (y70.2.1,y70.2.2.1,y70.2.2.2))) (fun⟨v79,v80,v81⟩=>
  M.yM ((out63.length+List.length ([y70.1]))*16<=140737488355328) <|
  M.pure (.next (((IntKind.u64.wrap (i62+1)),(out63++[y70.1]),v79,v80,v81))))))
  (M.pure (.done (out63,v64,v65,v66))))
def JC(most1:Int)(b_2:List Int)(at_3:Int)(bad_4:Int):M (List DT×List Int×Int×Int):=
 M.bind (cond (decide (most1 < 0))
  (M.pure 0)
  (M.pure most1)) (fun most5=>
 M.bind (M.det (zw b_2 at_3 bad_4)) fun y7=>
 M.bind (cond ((decide ((IntKind.u64.wrap most5) < y7.1)))
  (M.bind (M.det (zS 3 y7.2.1 y7.2.2.1 y7.2.2.2)) fun y13=>
  M.pure (y13.1,y13.2.1,y13.2.2))
  (M.pure (y7.2.1,y7.2.2.1,y7.2.2.2))) (fun⟨v9,v10,v11⟩=>
 M.bind (M.loop (yY y7) (0,([]:List DT),v9,v10,v11)) (fun⟨out15,v16,v17,v18⟩=>
 cond (!decide (v18=0))
  (M.pure (([]:List DT),v16,v17,v18))
  (M.pure (out15,v16,v17,v18)))))
end Go.Ep
namespace Go.Proofs
open Go.Shelf
def Tryz.pdq120_ren : Go.Shelf.Ren:=⟨fun | 14=>120 | 20=>160 | 21=>161 | 22=>162 | 23=>163 | 24=>164 | 25=>165 | 26=>166 | 27=>167 | 46=>184 | 47=>185 | 48=>186 | 49=>187 | 50=>188 | 15=>121 | 57=>212 | 28=>168 | 29=>169 | n=>n,fun | 24=>59 | 22=>24 | 3=>3 | 25=>159 | 4=>4 | 0=>0 | 46=>225 | 45=>224 | 50=>229 | 66=>246 | 39=>183 | 55=>22 | 70=>249 | 76=>267 | 77=>268 | 53=>232 | 5=>5 | 9=>9 | n=>n,fun | n=>n⟩
theorem Tryz.pdq120 : Go.Proofs.SlLaysF0.n14 Tryz.prog Tryz.pdq120_ren:={
 mixed:=by kernel_rfl
 f14:=⟨Tryz.f120.name,by decide,Tryz.func120.trans (congrArg some (by kernel_rfl))⟩
 f15:=Tryz.func121.trans (congrArg some (by kernel_rfl))
 f20:=⟨Tryz.f160.name,by decide,Tryz.func160.trans (congrArg some (by kernel_rfl))⟩
 f21:=⟨Tryz.f161.name,by decide,Tryz.func161.trans (congrArg some (by kernel_rfl))⟩
 f22:=⟨Tryz.f162.name,by decide,Tryz.func162.trans (congrArg some (by kernel_rfl))⟩
 f23:=⟨Tryz.f163.name,by decide,Tryz.func163.trans (congrArg some (by kernel_rfl))⟩
 f24:=⟨Tryz.f164.name,by decide,Tryz.func164.trans (congrArg some (by kernel_rfl))⟩
 f25:=⟨Tryz.f165.name,by decide,Tryz.func165.trans (congrArg some (by kernel_rfl))⟩
 f26:=⟨Tryz.f166.name,by decide,Tryz.func166.trans (congrArg some (by kernel_rfl))⟩
 f27:=⟨Tryz.f167.name,by decide,Tryz.func167.trans (congrArg some (by kernel_rfl))⟩
 f28:=Tryz.func168.trans (congrArg some (by kernel_rfl))
 f29:=Tryz.func169.trans (congrArg some (by kernel_rfl))
 f46:=⟨Tryz.f184.name,by decide,Tryz.func184.trans (congrArg some (by kernel_rfl))⟩
 f47:=Tryz.func185.trans (congrArg some (by kernel_rfl))
 f48:=Tryz.func186.trans (congrArg some (by kernel_rfl))
 f49:=⟨Tryz.f187.name,by decide,Tryz.func187.trans (congrArg some (by kernel_rfl))⟩
 f50:=⟨Tryz.f188.name,by decide,Tryz.func188.trans (congrArg some (by kernel_rfl))⟩
 f57:=⟨Tryz.f212.name,by decide,Tryz.func212.trans (congrArg some (by kernel_rfl))⟩
 t0:=Tryz.underlying0
 a0:=Tryz.isAgg0
 z0:=Tryz.sizeOf0
 v0:=Tryz.zeroValue0
 t3:=Tryz.underlying3
 a3:=Tryz.isAgg3
 z3:=Tryz.sizeOf3
 v3:=Tryz.zeroValue3
 t4:=Tryz.underlying4
 a4:=Tryz.isAgg4
 z4:=Tryz.sizeOf4
 v4:=Tryz.zeroValue4
 t5:=Tryz.underlying5
 a5:=Tryz.isAgg5
 z5:=Tryz.sizeOf5
 v5:=Tryz.zeroValue5
 t9:=Tryz.underlying9
 a9:=Tryz.isAgg9
 z9:=Tryz.sizeOf9
 v9:=Tryz.zeroValue9
 t22:=Tryz.underlying24
 a22:=Tryz.isAgg24
 z22:=Tryz.sizeOf24
 v22:=Tryz.zeroValue24
 t25:=Tryz.underlying159
 a25:=Tryz.isAgg159
 z25:=Tryz.sizeOf159
 v25:=Tryz.zeroValue159
 t39:=Tryz.underlying183
 a39:=Tryz.isAgg183
 z39:=Tryz.sizeOf183
 v39:=Tryz.zeroValue183
 t45:=Tryz.underlying224
 a45:=Tryz.isAgg224
 z45:=Tryz.sizeOf224
 v45:=Tryz.zeroValue224
 t46:=Tryz.underlying225
 a46:=Tryz.isAgg225
 z46:=Tryz.sizeOf225
 v46:=Tryz.zeroValue225
 t50:=Tryz.underlying229
 a50:=Tryz.isAgg229
 z50:=Tryz.sizeOf229
 v50:=Tryz.zeroValue229
 t53:=Tryz.underlying232
 a53:=Tryz.isAgg232
 z53:=Tryz.sizeOf232
 v53:=Tryz.zeroValue232
 t55:=Tryz.underlying22
 a55:=Tryz.isAgg22
 z55:=Tryz.sizeOf22
 v55:=Tryz.zeroValue22
 t66:=Tryz.underlying246
 a66:=Tryz.isAgg246
 z66:=Tryz.sizeOf246
 v66:=Tryz.zeroValue246
 t70:=Tryz.underlying249
 a70:=Tryz.isAgg249
 z70:=Tryz.sizeOf249
 v70:=Tryz.zeroValue249
 t76:=Tryz.underlying267
 a76:=Tryz.isAgg267
 z76:=Tryz.sizeOf267
 v76:=Tryz.zeroValue267
 t77:=Tryz.underlying268
 a77:=Tryz.isAgg268
 z77:=Tryz.sizeOf268
 v77:=Tryz.zeroValue268 }
def Tryz.pdq171_ren : Go.Shelf.Ren:=⟨fun | 14=>171 | 20=>189 | 21=>190 | 22=>191 | 23=>192 | 24=>193 | 25=>194 | 26=>195 | 27=>196 | 46=>213 | 47=>185 | 48=>186 | 49=>214 | 50=>215 | 15=>121 | 57=>239 | 28=>168 | 29=>169 | n=>n,fun | 24=>104 | 22=>29 | 3=>3 | 25=>197 | 4=>4 | 0=>0 | 46=>225 | 45=>224 | 50=>229 | 66=>246 | 39=>183 | 55=>22 | 70=>249 | 76=>267 | 77=>268 | 53=>232 | 5=>5 | 9=>9 | n=>n,fun | n=>n⟩
theorem Tryz.pdq171 : Go.Proofs.SlLaysF0.n14 Tryz.prog Tryz.pdq171_ren:={
 mixed:=by kernel_rfl
 f14:=⟨Tryz.f171.name,by decide,Tryz.func171.trans (congrArg some (by kernel_rfl))⟩
 f15:=Tryz.func121.trans (congrArg some (by kernel_rfl))
 f20:=⟨Tryz.f189.name,by decide,Tryz.func189.trans (congrArg some (by kernel_rfl))⟩
 f21:=⟨Tryz.f190.name,by decide,Tryz.func190.trans (congrArg some (by kernel_rfl))⟩
 f22:=⟨Tryz.f191.name,by decide,Tryz.func191.trans (congrArg some (by kernel_rfl))⟩
 f23:=⟨Tryz.f192.name,by decide,Tryz.func192.trans (congrArg some (by kernel_rfl))⟩
 f24:=⟨Tryz.f193.name,by decide,Tryz.func193.trans (congrArg some (by kernel_rfl))⟩
 f25:=⟨Tryz.f194.name,by decide,Tryz.func194.trans (congrArg some (by kernel_rfl))⟩
 f26:=⟨Tryz.f195.name,by decide,Tryz.func195.trans (congrArg some (by kernel_rfl))⟩
 f27:=⟨Tryz.f196.name,by decide,Tryz.func196.trans (congrArg some (by kernel_rfl))⟩
 f28:=Tryz.func168.trans (congrArg some (by kernel_rfl))
 f29:=Tryz.func169.trans (congrArg some (by kernel_rfl))
 f46:=⟨Tryz.f213.name,by decide,Tryz.func213.trans (congrArg some (by kernel_rfl))⟩
 f47:=Tryz.func185.trans (congrArg some (by kernel_rfl))
 f48:=Tryz.func186.trans (congrArg some (by kernel_rfl))
 f49:=⟨Tryz.f214.name,by decide,Tryz.func214.trans (congrArg some (by kernel_rfl))⟩
 f50:=⟨Tryz.f215.name,by decide,Tryz.func215.trans (congrArg some (by kernel_rfl))⟩
 f57:=⟨Tryz.f239.name,by decide,Tryz.func239.trans (congrArg some (by kernel_rfl))⟩
 t0:=Tryz.underlying0
 a0:=Tryz.isAgg0
 z0:=Tryz.sizeOf0
 v0:=Tryz.zeroValue0
 t3:=Tryz.underlying3
 a3:=Tryz.isAgg3
 z3:=Tryz.sizeOf3
 v3:=Tryz.zeroValue3
 t4:=Tryz.underlying4
 a4:=Tryz.isAgg4
 z4:=Tryz.sizeOf4
 v4:=Tryz.zeroValue4
 t5:=Tryz.underlying5
 a5:=Tryz.isAgg5
 z5:=Tryz.sizeOf5
 v5:=Tryz.zeroValue5
 t9:=Tryz.underlying9
 a9:=Tryz.isAgg9
 z9:=Tryz.sizeOf9
 v9:=Tryz.zeroValue9
 t22:=Tryz.underlying29
 a22:=Tryz.isAgg29
 z22:=Tryz.sizeOf29
 v22:=Tryz.zeroValue29
 t25:=Tryz.underlying197
 a25:=Tryz.isAgg197
 z25:=Tryz.sizeOf197
 v25:=Tryz.zeroValue197
 t39:=Tryz.underlying183
 a39:=Tryz.isAgg183
 z39:=Tryz.sizeOf183
 v39:=Tryz.zeroValue183
 t45:=Tryz.underlying224
 a45:=Tryz.isAgg224
 z45:=Tryz.sizeOf224
 v45:=Tryz.zeroValue224
 t46:=Tryz.underlying225
 a46:=Tryz.isAgg225
 z46:=Tryz.sizeOf225
 v46:=Tryz.zeroValue225
 t50:=Tryz.underlying229
 a50:=Tryz.isAgg229
 z50:=Tryz.sizeOf229
 v50:=Tryz.zeroValue229
 t53:=Tryz.underlying232
 a53:=Tryz.isAgg232
 z53:=Tryz.sizeOf232
 v53:=Tryz.zeroValue232
 t55:=Tryz.underlying22
 a55:=Tryz.isAgg22
 z55:=Tryz.sizeOf22
 v55:=Tryz.zeroValue22
 t66:=Tryz.underlying246
 a66:=Tryz.isAgg246
 z66:=Tryz.sizeOf246
 v66:=Tryz.zeroValue246
 t70:=Tryz.underlying249
 a70:=Tryz.isAgg249
 z70:=Tryz.sizeOf249
 v70:=Tryz.zeroValue249
 t76:=Tryz.underlying267
 a76:=Tryz.isAgg267
 z76:=Tryz.sizeOf267
 v76:=Tryz.zeroValue267
 t77:=Tryz.underlying268
 a77:=Tryz.isAgg268
 z77:=Tryz.sizeOf268
 v77:=Tryz.zeroValue268 }
def Tryz.pdq177_ren : Go.Shelf.Ren:=⟨fun | 14=>177 | 20=>201 | 21=>202 | 22=>203 | 23=>204 | 24=>205 | 25=>206 | 26=>207 | 27=>208 | 46=>227 | 47=>185 | 48=>186 | 49=>228 | 50=>229 | 15=>121 | 57=>246 | 28=>168 | 29=>169 | n=>n,fun | 24=>99 | 22=>27 | 3=>3 | 25=>206 | 4=>4 | 0=>0 | 46=>225 | 45=>224 | 50=>229 | 66=>246 | 39=>183 | 55=>22 | 70=>249 | 76=>267 | 77=>268 | 53=>232 | 5=>5 | 9=>9 | n=>n,fun | n=>n⟩
theorem Tryz.pdq177 : Go.Proofs.SlLaysF0.n14 Tryz.prog Tryz.pdq177_ren:={
 mixed:=by kernel_rfl
 f14:=⟨Tryz.f177.name,by decide,Tryz.func177.trans (congrArg some (by kernel_rfl))⟩
 f15:=Tryz.func121.trans (congrArg some (by kernel_rfl))
 f20:=⟨Tryz.f201.name,by decide,Tryz.func201.trans (congrArg some (by kernel_rfl))⟩
 f21:=⟨Tryz.f202.name,by decide,Tryz.func202.trans (congrArg some (by kernel_rfl))⟩
 f22:=⟨Tryz.f203.name,by decide,Tryz.func203.trans (congrArg some (by kernel_rfl))⟩
 f23:=⟨Tryz.f204.name,by decide,Tryz.func204.trans (congrArg some (by kernel_rfl))⟩
 f24:=⟨Tryz.f205.name,by decide,Tryz.func205.trans (congrArg some (by kernel_rfl))⟩
 f25:=⟨Tryz.f206.name,by decide,Tryz.func206.trans (congrArg some (by kernel_rfl))⟩
 f26:=⟨Tryz.f207.name,by decide,Tryz.func207.trans (congrArg some (by kernel_rfl))⟩
 f27:=⟨Tryz.f208.name,by decide,Tryz.func208.trans (congrArg some (by kernel_rfl))⟩
 f28:=Tryz.func168.trans (congrArg some (by kernel_rfl))
 f29:=Tryz.func169.trans (congrArg some (by kernel_rfl))
 f46:=⟨Tryz.f227.name,by decide,Tryz.func227.trans (congrArg some (by kernel_rfl))⟩
 f47:=Tryz.func185.trans (congrArg some (by kernel_rfl))
 f48:=Tryz.func186.trans (congrArg some (by kernel_rfl))
 f49:=⟨Tryz.f228.name,by decide,Tryz.func228.trans (congrArg some (by kernel_rfl))⟩
 f50:=⟨Tryz.f229.name,by decide,Tryz.func229.trans (congrArg some (by kernel_rfl))⟩
 f57:=⟨Tryz.f246.name,by decide,Tryz.func246.trans (congrArg some (by kernel_rfl))⟩
 t0:=Tryz.underlying0
 a0:=Tryz.isAgg0
 z0:=Tryz.sizeOf0
 v0:=Tryz.zeroValue0
 t3:=Tryz.underlying3
 a3:=Tryz.isAgg3
 z3:=Tryz.sizeOf3
 v3:=Tryz.zeroValue3
 t4:=Tryz.underlying4
 a4:=Tryz.isAgg4
 z4:=Tryz.sizeOf4
 v4:=Tryz.zeroValue4
 t5:=Tryz.underlying5
 a5:=Tryz.isAgg5
 z5:=Tryz.sizeOf5
 v5:=Tryz.zeroValue5
 t9:=Tryz.underlying9
 a9:=Tryz.isAgg9
 z9:=Tryz.sizeOf9
 v9:=Tryz.zeroValue9
 t22:=Tryz.underlying27
 a22:=Tryz.isAgg27
 z22:=Tryz.sizeOf27
 v22:=Tryz.zeroValue27
 t25:=Tryz.underlying206
 a25:=Tryz.isAgg206
 z25:=Tryz.sizeOf206
 v25:=Tryz.zeroValue206
 t39:=Tryz.underlying183
 a39:=Tryz.isAgg183
 z39:=Tryz.sizeOf183
 v39:=Tryz.zeroValue183
 t45:=Tryz.underlying224
 a45:=Tryz.isAgg224
 z45:=Tryz.sizeOf224
 v45:=Tryz.zeroValue224
 t46:=Tryz.underlying225
 a46:=Tryz.isAgg225
 z46:=Tryz.sizeOf225
 v46:=Tryz.zeroValue225
 t50:=Tryz.underlying229
 a50:=Tryz.isAgg229
 z50:=Tryz.sizeOf229
 v50:=Tryz.zeroValue229
 t53:=Tryz.underlying232
 a53:=Tryz.isAgg232
 z53:=Tryz.sizeOf232
 v53:=Tryz.zeroValue232
 t55:=Tryz.underlying22
 a55:=Tryz.isAgg22
 z55:=Tryz.sizeOf22
 v55:=Tryz.zeroValue22
 t66:=Tryz.underlying246
 a66:=Tryz.isAgg246
 z66:=Tryz.sizeOf246
 v66:=Tryz.zeroValue246
 t70:=Tryz.underlying249
 a70:=Tryz.isAgg249
 z70:=Tryz.sizeOf249
 v70:=Tryz.zeroValue249
 t76:=Tryz.underlying267
 a76:=Tryz.isAgg267
 z76:=Tryz.sizeOf267
 v76:=Tryz.zeroValue267
 t77:=Tryz.underlying268
 a77:=Tryz.isAgg268
 z77:=Tryz.sizeOf268
 v77:=Tryz.zeroValue268 }
def Tryz.pdq200_ren : Go.Shelf.Ren:=⟨fun | 14=>200 | 20=>219 | 21=>220 | 22=>221 | 23=>222 | 24=>223 | 25=>224 | 26=>225 | 27=>226 | 46=>243 | 47=>185 | 48=>186 | 49=>244 | 50=>245 | 15=>121 | 57=>250 | 28=>168 | 29=>169 | n=>n,fun | 24=>124 | 22=>97 | 3=>3 | 25=>239 | 4=>4 | 0=>0 | 46=>225 | 45=>224 | 50=>229 | 66=>246 | 39=>183 | 55=>22 | 70=>249 | 76=>267 | 77=>268 | 53=>232 | 5=>5 | 9=>9 | n=>n,fun | n=>n⟩
theorem Tryz.pdq200 : Go.Proofs.SlLaysF0.n14 Tryz.prog Tryz.pdq200_ren:={
 mixed:=by kernel_rfl
 f14:=⟨Tryz.f200.name,by decide,Tryz.func200.trans (congrArg some (by kernel_rfl))⟩
 f15:=Tryz.func121.trans (congrArg some (by kernel_rfl))
 f20:=⟨Tryz.f219.name,by decide,Tryz.func219.trans (congrArg some (by kernel_rfl))⟩
 f21:=⟨Tryz.f220.name,by decide,Tryz.func220.trans (congrArg some (by kernel_rfl))⟩
 f22:=⟨Tryz.f221.name,by decide,Tryz.func221.trans (congrArg some (by kernel_rfl))⟩
 f23:=⟨Tryz.f222.name,by decide,Tryz.func222.trans (congrArg some (by kernel_rfl))⟩
 f24:=⟨Tryz.f223.name,by decide,Tryz.func223.trans (congrArg some (by kernel_rfl))⟩
 f25:=⟨Tryz.f224.name,by decide,Tryz.func224.trans (congrArg some (by kernel_rfl))⟩
 f26:=⟨Tryz.f225.name,by decide,Tryz.func225.trans (congrArg some (by kernel_rfl))⟩
 f27:=⟨Tryz.f226.name,by decide,Tryz.func226.trans (congrArg some (by kernel_rfl))⟩
 f28:=Tryz.func168.trans (congrArg some (by kernel_rfl))
 f29:=Tryz.func169.trans (congrArg some (by kernel_rfl))
 f46:=⟨Tryz.f243.name,by decide,Tryz.func243.trans (congrArg some (by kernel_rfl))⟩
 f47:=Tryz.func185.trans (congrArg some (by kernel_rfl))
 f48:=Tryz.func186.trans (congrArg some (by kernel_rfl))
 f49:=⟨Tryz.f244.name,by decide,Tryz.func244.trans (congrArg some (by kernel_rfl))⟩
 f50:=⟨Tryz.f245.name,by decide,Tryz.func245.trans (congrArg some (by kernel_rfl))⟩
 f57:=⟨Tryz.f250.name,by decide,Tryz.func250.trans (congrArg some (by kernel_rfl))⟩
 t0:=Tryz.underlying0
 a0:=Tryz.isAgg0
 z0:=Tryz.sizeOf0
 v0:=Tryz.zeroValue0
 t3:=Tryz.underlying3
 a3:=Tryz.isAgg3
 z3:=Tryz.sizeOf3
 v3:=Tryz.zeroValue3
 t4:=Tryz.underlying4
 a4:=Tryz.isAgg4
 z4:=Tryz.sizeOf4
 v4:=Tryz.zeroValue4
 t5:=Tryz.underlying5
 a5:=Tryz.isAgg5
 z5:=Tryz.sizeOf5
 v5:=Tryz.zeroValue5
 t9:=Tryz.underlying9
 a9:=Tryz.isAgg9
 z9:=Tryz.sizeOf9
 v9:=Tryz.zeroValue9
 t22:=Tryz.underlying97
 a22:=Tryz.isAgg97
 z22:=Tryz.sizeOf97
 v22:=Tryz.zeroValue97
 t25:=Tryz.underlying239
 a25:=Tryz.isAgg239
 z25:=Tryz.sizeOf239
 v25:=Tryz.zeroValue239
 t39:=Tryz.underlying183
 a39:=Tryz.isAgg183
 z39:=Tryz.sizeOf183
 v39:=Tryz.zeroValue183
 t45:=Tryz.underlying224
 a45:=Tryz.isAgg224
 z45:=Tryz.sizeOf224
 v45:=Tryz.zeroValue224
 t46:=Tryz.underlying225
 a46:=Tryz.isAgg225
 z46:=Tryz.sizeOf225
 v46:=Tryz.zeroValue225
 t50:=Tryz.underlying229
 a50:=Tryz.isAgg229
 z50:=Tryz.sizeOf229
 v50:=Tryz.zeroValue229
 t53:=Tryz.underlying232
 a53:=Tryz.isAgg232
 z53:=Tryz.sizeOf232
 v53:=Tryz.zeroValue232
 t55:=Tryz.underlying22
 a55:=Tryz.isAgg22
 z55:=Tryz.sizeOf22
 v55:=Tryz.zeroValue22
 t66:=Tryz.underlying246
 a66:=Tryz.isAgg246
 z66:=Tryz.sizeOf246
 v66:=Tryz.zeroValue246
 t70:=Tryz.underlying249
 a70:=Tryz.isAgg249
 z70:=Tryz.sizeOf249
 v70:=Tryz.zeroValue249
 t76:=Tryz.underlying267
 a76:=Tryz.isAgg267
 z76:=Tryz.sizeOf267
 v76:=Tryz.zeroValue267
 t77:=Tryz.underlying268
 a77:=Tryz.isAgg268
 z77:=Tryz.sizeOf268
 v77:=Tryz.zeroValue268 }
def Tryz.pdq209_ren : Go.Shelf.Ren:=⟨fun | 14=>209 | 20=>230 | 21=>231 | 22=>232 | 23=>233 | 24=>234 | 25=>235 | 26=>236 | 27=>237 | 46=>247 | 47=>185 | 48=>186 | 49=>248 | 50=>249 | 15=>121 | 57=>251 | 28=>168 | 29=>169 | n=>n,fun | 24=>101 | 22=>102 | 3=>3 | 25=>142 | 4=>4 | 0=>0 | 46=>225 | 45=>224 | 50=>229 | 66=>246 | 39=>183 | 55=>22 | 70=>249 | 76=>267 | 77=>268 | 53=>232 | 5=>5 | 9=>9 | n=>n,fun | n=>n⟩
theorem Tryz.pdq209 : Go.Proofs.SlLaysF0.n14 Tryz.prog Tryz.pdq209_ren:={
 mixed:=by kernel_rfl
 f14:=⟨Tryz.f209.name,by decide,Tryz.func209.trans (congrArg some (by kernel_rfl))⟩
 f15:=Tryz.func121.trans (congrArg some (by kernel_rfl))
 f20:=⟨Tryz.f230.name,by decide,Tryz.func230.trans (congrArg some (by kernel_rfl))⟩
 f21:=⟨Tryz.f231.name,by decide,Tryz.func231.trans (congrArg some (by kernel_rfl))⟩
 f22:=⟨Tryz.f232.name,by decide,Tryz.func232.trans (congrArg some (by kernel_rfl))⟩
 f23:=⟨Tryz.f233.name,by decide,Tryz.func233.trans (congrArg some (by kernel_rfl))⟩
 f24:=⟨Tryz.f234.name,by decide,Tryz.func234.trans (congrArg some (by kernel_rfl))⟩
 f25:=⟨Tryz.f235.name,by decide,Tryz.func235.trans (congrArg some (by kernel_rfl))⟩
 f26:=⟨Tryz.f236.name,by decide,Tryz.func236.trans (congrArg some (by kernel_rfl))⟩
 f27:=⟨Tryz.f237.name,by decide,Tryz.func237.trans (congrArg some (by kernel_rfl))⟩
 f28:=Tryz.func168.trans (congrArg some (by kernel_rfl))
 f29:=Tryz.func169.trans (congrArg some (by kernel_rfl))
 f46:=⟨Tryz.f247.name,by decide,Tryz.func247.trans (congrArg some (by kernel_rfl))⟩
 f47:=Tryz.func185.trans (congrArg some (by kernel_rfl))
 f48:=Tryz.func186.trans (congrArg some (by kernel_rfl))
 f49:=⟨Tryz.f248.name,by decide,Tryz.func248.trans (congrArg some (by kernel_rfl))⟩
 f50:=⟨Tryz.f249.name,by decide,Tryz.func249.trans (congrArg some (by kernel_rfl))⟩
 f57:=⟨Tryz.f251.name,by decide,Tryz.func251.trans (congrArg some (by kernel_rfl))⟩
 t0:=Tryz.underlying0
 a0:=Tryz.isAgg0
 z0:=Tryz.sizeOf0
 v0:=Tryz.zeroValue0
 t3:=Tryz.underlying3
 a3:=Tryz.isAgg3
 z3:=Tryz.sizeOf3
 v3:=Tryz.zeroValue3
 t4:=Tryz.underlying4
 a4:=Tryz.isAgg4
 z4:=Tryz.sizeOf4
 v4:=Tryz.zeroValue4
 t5:=Tryz.underlying5
 a5:=Tryz.isAgg5
 z5:=Tryz.sizeOf5
 v5:=Tryz.zeroValue5
 t9:=Tryz.underlying9
 a9:=Tryz.isAgg9
 z9:=Tryz.sizeOf9
 v9:=Tryz.zeroValue9
 t22:=Tryz.underlying102
 a22:=Tryz.isAgg102
 z22:=Tryz.sizeOf102
 v22:=Tryz.zeroValue102
 t25:=Tryz.underlying142
 a25:=Tryz.isAgg142
 z25:=Tryz.sizeOf142
 v25:=Tryz.zeroValue142
 t39:=Tryz.underlying183
 a39:=Tryz.isAgg183
 z39:=Tryz.sizeOf183
 v39:=Tryz.zeroValue183
 t45:=Tryz.underlying224
 a45:=Tryz.isAgg224
 z45:=Tryz.sizeOf224
 v45:=Tryz.zeroValue224
 t46:=Tryz.underlying225
 a46:=Tryz.isAgg225
 z46:=Tryz.sizeOf225
 v46:=Tryz.zeroValue225
 t50:=Tryz.underlying229
 a50:=Tryz.isAgg229
 z50:=Tryz.sizeOf229
 v50:=Tryz.zeroValue229
 t53:=Tryz.underlying232
 a53:=Tryz.isAgg232
 z53:=Tryz.sizeOf232
 v53:=Tryz.zeroValue232
 t55:=Tryz.underlying22
 a55:=Tryz.isAgg22
 z55:=Tryz.sizeOf22
 v55:=Tryz.zeroValue22
 t66:=Tryz.underlying246
 a66:=Tryz.isAgg246
 z66:=Tryz.sizeOf246
 v66:=Tryz.zeroValue246
 t70:=Tryz.underlying249
 a70:=Tryz.isAgg249
 z70:=Tryz.sizeOf249
 v70:=Tryz.zeroValue249
 t76:=Tryz.underlying267
 a76:=Tryz.isAgg267
 z76:=Tryz.sizeOf267
 v76:=Tryz.zeroValue267
 t77:=Tryz.underlying268
 a77:=Tryz.isAgg268
 z77:=Tryz.sizeOf268
 v77:=Tryz.zeroValue268 }
def Tryz.bits121_ren : Go.Shelf.Ren:=⟨fun | 15=>121 | 28=>168 | 29=>169 | n=>n,fun | 39=>183 | 3=>3 | 53=>232 | 55=>22 | 4=>4 | 5=>5 | 9=>9 | n=>n,fun | n=>n⟩
theorem Tryz.bits121 : Go.Proofs.SlLaysF0.n15 Tryz.prog Tryz.bits121_ren:={
 mixed:=by kernel_rfl
 f15:=Tryz.func121.trans (congrArg some (by kernel_rfl))
 f28:=Tryz.func168.trans (congrArg some (by kernel_rfl))
 f29:=Tryz.func169.trans (congrArg some (by kernel_rfl))
 t3:=Tryz.underlying3
 a3:=Tryz.isAgg3
 z3:=Tryz.sizeOf3
 v3:=Tryz.zeroValue3
 t4:=Tryz.underlying4
 a4:=Tryz.isAgg4
 z4:=Tryz.sizeOf4
 v4:=Tryz.zeroValue4
 t5:=Tryz.underlying5
 a5:=Tryz.isAgg5
 z5:=Tryz.sizeOf5
 v5:=Tryz.zeroValue5
 t9:=Tryz.underlying9
 a9:=Tryz.isAgg9
 z9:=Tryz.sizeOf9
 v9:=Tryz.zeroValue9
 t39:=Tryz.underlying183
 a39:=Tryz.isAgg183
 z39:=Tryz.sizeOf183
 v39:=Tryz.zeroValue183
 t53:=Tryz.underlying232
 a53:=Tryz.isAgg232
 z53:=Tryz.sizeOf232
 v53:=Tryz.zeroValue232
 t55:=Tryz.underlying22
 a55:=Tryz.isAgg22
 z55:=Tryz.sizeOf22
 v55:=Tryz.zeroValue22 }
end Go.Proofs
namespace Go.Ep
open Go.Shelf Go.RowKit Go.Lib Go.Sort Go.Proofs
theorem SortLaw.of{α:Type}[Inhabited α]{P:Program}{f g:FuncId}{k:Nat}{enc:α->List Value}{lt:α->α->Bool}{cf:α->α->Int}(hO:SWO (ltOf cf))(hlt:∀ x y,ltOf cf x y=lt x y)(hk:∀ x,(enc x).length=k)
  (hnil:∀ w:World,Calls P f #[.slice none 0 0,.func (.func g) #[] #[]] w fun e w'=>e=.returned (.tuple #[])/\Go.RowKit.Below w.heap.size w w')
  (hrow:∀ (blk off cap:Nat) (d:Array α) (w:World),HoldsK enc k w blk off d->blk < w.heap.size->d.size < 4611686018427387904 ->
   Calls P f #[.slice (some ⟨blk,off,none⟩) d.size cap,.func (.func g) #[] #[]] w fun e w'=>e=.returned (.tuple #[])/\∃ n os,w'=sortWorldK enc k w blk off n (pdq (ltOf cf) d 0 d.size (Lib.bitLen d.size) true true) os):SortLaw P f g k enc lt:=by
 refine⟨hnil,fun w blk cap l T cur hh hlc hcs hlen hcells=>?_⟩;have hblk:blk < w.heap.size:=(Array.getElem?_eq_some_iff.1 hh).1;have hH:HoldsK enc k w blk 0 l.toArray:=by
  intro j hj;rw[size_flatK] at hj;have hj':j < l.length*k:=by simpa using hj
  obtain⟨hk0,h1,h2,h3⟩:=WB hj'
  constructor
  ·rw[Nat.zero_add,zc hh];show _=some ((flatK enc k l.toArray)[j]!);rw[get_flatK _ _ _ _ hj];have hx:l[j / k]?=some l[j / k]:=List.getElem?_eq_getElem h1;have hlk:(enc l[j / k]).length=k:=hk _;have hu:(enc l[j / k])[j % k]?=some ((enc l[j / k])[j % k]'(by omega)):=List.getElem?_eq_getElem (by omega);have:=hcells (j / k) _ (j % k) _ hx hu;rw[h3] at this;rw[this];have e1:(l.toArray)[j / k]! = l[j / k]:=by simp[h1]
   rw[e1];simp[hu]
  ·simp[World.frozen?,hh]
 have hd:l.toArray.size=l.length:=by simp
 have hcall:=hrow blk 0 cap l.toArray w hH hblk (by simpa using hlen);rw[hd] at hcall;refine hcall.mono fun e w' ⟨he,n,os,hw⟩=>⟨he,?_⟩
 have hp:=pdq_sorts (ltOf cf) hO l.toArray 0 l.toArray.size (Lib.bitLen l.toArray.size) true true (Nat.zero_le _) (Nat.le_refl _) (Or.inl rfl);rw[hd] at hp
 generalize pdq (ltOf cf) l.toArray 0 l.length (Lib.bitLen l.length) true true=d' at hp hw
 obtain⟨⟨hsz,_,hperm⟩,hsort⟩:=hp;have hsz':d'.size=l.length:=by simpa using hsz
 have hp':d'.toList.Perm l:=by
  have e1:(d'.extract 0 l.length).toList=d'.toList:=by rw[<- hsz'];simp
  have e2:(l.toArray.extract 0 l.length).toList=l:=by simp
  rw[e1,e2] at hperm;exact hperm
 have hmod:∀ b,b < w.heap.size->(sortWorldK enc k w blk 0 n d' os).heap[b]?=if blk=b then (w.heap[b]?).map (onCells (putCells id 0 (flatK enc k d'))) else w.heap[b]?:=by
  intro b hb;have hb2:b < (putRowK enc k (Sort.ahead w n) blk 0 d').heap.size:=by simpa[putRowK,Sort.ahead] using hb
  show(grow (putRowK enc k (Sort.ahead w n) blk 0 d') os).heap[b]?=_;rw[Sort.heap_grow_old _ _ hb2];show((w.heap.modify blk (onCells (putCells id 0 (flatK enc k d')))))[b]?=_;rw[Array.getElem?_modify]
 subst hw;refine⟨d'.toList,(putCells id 0 (flatK enc k d') cur.toArray).toList,hp',?_,?_,?_,?_,rfl,rfl,rfl,?_,?_⟩
 ·rw[List.pairwise_iff_getElem];intro i j hi hj hij;have:=hsort i j (Nat.zero_le _) hij (by simpa[hsz'] using hj);rw[hlt] at this;have hi':i < d'.size:=by simpa using hi
  have hj':j < d'.size:=by simpa using hj
  simpa[hi',hj'] using this
 ·rw[hmod blk hblk,if_pos rfl,hh];simp[onCells]
 ·simp[putCells]
 ·intro i x j u hi hu;have hi':i < l.length:=by rw[<- hsz'];have:=(List.getElem?_eq_some_iff.1 hi).1;simpa using this
  have hj:j < k:=by rw[<- hk x];exact(List.getElem?_eq_some_iff.1 hu).1
  have hlt2:i*k+j < l.length*k:=uL hi' hj;have hcl:l.length*k<=cur.length:=by rw[hcs];exact Nat.mul_le_mul_right k hlc
  have hin:i*k+j < d'.size*k:=by rw[hsz'];exact hlt2
  have hget:(flatK enc k d')[i*k+j]! = u:=by
   rw[get_flatK _ _ _ _ hin];have hk0:0 < k:=by omega
   have e1:(i*k+j) / k=i:=by rw[Nat.mul_comm,Nat.mul_add_div hk0,Nat.div_eq_of_lt hj];omega
   have e2:(i*k+j) % k=j:=by rw[Nat.mul_comm,Nat.mul_add_mod,Nat.mod_eq_of_lt hj]
   rw[e1,e2];have e3:d'[i]! = x:=by
    obtain⟨h1,h2⟩:=List.getElem?_eq_some_iff.1 hi;have h1':i < d'.size:=by simpa using h1
    rw[getElem!_pos d' i h1'];simpa using h2
   rw[e3];simp[hu]
  have hc2:i*k+j < cur.length:=by omega
  simp only[putCells,Array.toList_mapIdx,List.getElem?_mapIdx];rw[List.getElem?_eq_getElem hc2];simp only[Option.map_some,id];rw[if_pos ⟨Nat.zero_le _,by rw[size_flatK];omega⟩,Nat.sub_zero,hget]
 ·show w.heap.size<=(grow (putRowK enc k (Sort.ahead w n) blk 0 d') os).heap.size;simp[grow,putRowK,Sort.ahead]
 ·intro b hb hne;rw[hmod b hb,if_neg (Ne.symm hne)]
end Go.Ep
