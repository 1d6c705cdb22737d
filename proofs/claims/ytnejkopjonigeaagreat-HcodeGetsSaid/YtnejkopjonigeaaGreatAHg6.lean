/- Side texts. -/
import Derived.Test.YtnejkopjonigeaaGreatAHg5
set_option linter.unusedVariables false
set_option linter.unusedSimpArgs false
namespace Go.Ep
open Go
def uB(x1:Int):M Bool:=
 M.pure (!decide (x1=x1))
def xp(x1:Int)(y2:Int):M Int:=
 M.bind (M.det (uB x1)) fun v3=>
 M.bind (M.det (uB y2)) fun v5=>
 cond v3
  (cond v5
   (M.pure 0)
   (M.pure (-1)))
  (cond v5
   (M.pure 1)
   (cond (decide (x1 < y2))
    (M.pure (-1))
    (cond (decide (y2 < x1))
     (M.pure 1)
     (M.pure 0))))
def uv(l1:List RN):Int×List RN->M (M.Step (Int×List RN) (List RN)):=fun⟨v23,some24⟩=>
 cond ((decide (v23 < (l1.length:Int))))
  (M.bind (M.bind (M.idx l1 v23) fun x27=>
  M.bind (cond (decide (0 < x27.lo))
   (cond (decide (x27.lo<=x27.hi))
    (M.pure (decide (x27.hi<=281474976710655)))
    (M.pure false))
   (M.pure false)) (fun v29=>
  cond v29
   (M.yk ((some24.length+List.length ([x27]))*16<=140737488355328) <|
   M.pure (some24++[x27]))
   (M.pure some24))) (fun some26=>
  M.pure (.next (((IntKind.i64.wrap (v23+1)),some26)))))
  (M.pure (.done some24))
def uw(some2:List RN)(s34:List RN):Int×List RN->M (M.Step (Int×List RN) (List RN)):=fun⟨v69,out70⟩=>
 cond ((decide (v69 < ((some2.length):Int))))
  (M.bind (M.bind (M.idx s34 v69) fun x73=>
  M.bind (cond ((decide (0<=((IntKind.i64.wrap (((out70.length):Int) - 1))))))
   (M.bind (M.idx out70 ((IntKind.i64.wrap (((out70.length):Int) - 1)))) fun x77=>
   M.pure ((decide (x73.lo<=(IntKind.u64.wrap (x77.hi+1))))))
   (M.pure false)) (fun v75=>
  cond v75
   (M.bind (M.idx out70 ((IntKind.i64.wrap (((out70.length):Int) - 1)))) fun x80=>
   M.bind (M.idx out70 ((IntKind.i64.wrap (((out70.length):Int) - 1)))) fun x82=>
   M.pure ((List.set out70 ((Int.toNat ((IntKind.i64.wrap (((out70.length):Int) - 1))))) (⟨x82.lo,(max x80.hi x73.hi)⟩:RN))))
   (M.yk ((out70.length+List.length ([x73]))*16<=140737488355328) <|
   M.pure (out70++[x73])))) (fun out72=>
  M.pure (.next (((IntKind.i64.wrap (v69+1)),out72)))))
  (M.pure (.done out70))
def ux(l1:List RN):M (List RN):=
 M.bind (M.loop (uv l1) (0,([]:List RN))) (fun some2=>
 M.yk (some2.length < 4611686018427387904)<|M.bind (M.srt zLa some2) fun s34=>
 M.bind (M.loop (uw some2 s34) (0,([]:List RN))) (fun out38=>
 M.pure out38))
def uC(x1:Int):M Bool:=
 M.pure (!decide (x1=x1))
def vM(x1:Int)(y2:Int):M Int:=
 M.bind (M.det (uC x1)) fun v3=>
 M.bind (M.det (uC y2)) fun v5=>
 cond v3
  (cond v5
   (M.pure 0)
   (M.pure (-1)))
  (cond v5
   (M.pure 1)
   (cond (decide (x1 < y2))
    (M.pure (-1))
    (cond (decide (y2 < x1))
     (M.pure 1)
     (M.pure 0))))
def Yh(m1:List (Int×List RN)):List Nat×List PT->M (M.Step (List Nat×List PT) (List PT)):=fun⟨seen28,c29⟩=>
 M.yk (∀ i∈seen28,i < m1.length)<|M.bind (M.nxt (m1.length) seen28) fun o=>match o with
 | none=>
  M.pure (.done c29)
 | some j30=>
  M.bind (M.idx m1 (Int.ofNat j30)) fun kv34=>
  M.bind (M.det (ux kv34.2)) fun v36=>
  cond ((decide (0 < ((v36.length):Int))))
   (M.yk ((c29.length+List.length ([(⟨kv34.1,v36⟩:PT)]))*32<=140737488355328) <|
   M.pure (.next (((seen28++[j30]),(c29++[(⟨kv34.1,v36⟩:PT)])))))
   (M.pure (.next ((seen28++[j30]),c29)))
def WS(m1:List (Int×List RN)):M (List PT):=
 M.bind (M.loop (Yh m1) ([],([]:List PT))) (fun c3=>
 M.yk (c3.length < 4611686018427387904)<|M.bind (M.srt zea c3) fun s41=>
 M.pure s41)
def yU(p:PT):Option (Int×List RN):=if 0 < p.dev then some (p.dev,p.runs) else none
def Un(c1:List PT):M (List (Int×List RN)):=
 M.yk (AL.growOK 16 (c1.length) (List.filterMap yU c1)) <|
 M.pure ((AL.grow ([]:List (Int×List RN)) (List.filterMap yU c1)))
def un(c1:List PT):M (List PT):=
 M.bind (M.det (Un c1)) fun v2=>
 M.bind (M.det (WS v2)) fun v5=>
 M.pure v5
def Yb(s1_1:List RN)(s2_2:List RN):Int->M (M.Step Int (M.Ex Unit Bool)):=fun v17=>
 cond ((decide (v17 < (s1_1.length:Int))))
  (M.bind (M.idx s1_1 v17) fun x19=>
  M.bind (M.idx s2_2 v17) fun x21=>
  cond ((!(decide (x19.lo=x21.lo)&&decide (x19.hi=x21.hi))))
   (M.pure (.done (.ret false)))
   (M.pure (.next (IntKind.i64.wrap (v17+1)))))
  (M.pure (.done (.brk ())))
def xS(s1_1:List RN)(s2_2:List RN):M Bool:=
 cond ((!decide ((s1_1.length:Int)=(s2_2.length:Int))))
  (M.pure false)
  (M.bind (M.loop (Yb s1_1 s2_2) 0) (M.exk (fun _=>
  M.pure true)))
def qv(x1:PT)(y2:PT):M Bool:=
 M.bind (cond (decide (x1.dev=y2.dev))
  (M.bind (M.det (xS x1.runs y2.runs)) fun v5=>
  M.pure v5)
  (M.pure false)) (fun v3=>
 M.pure v3)
def zn(s1_1:List PT)(s2_2:List PT):Int->M (M.Step Int (M.Ex Unit Bool)):=fun v21=>
 cond ((decide (v21 < (s1_1.length:Int))))
  (M.bind (M.idx s1_1 v21) fun x23=>
  M.bind (M.idx s2_2 v21) fun x25=>
  M.bind (M.det (qv x23 x25)) fun v27=>
  cond (!v27)
   (M.pure (.done (.ret false)))
   (M.pure (.next (IntKind.i64.wrap (v21+1)))))
  (M.pure (.done (.brk ())))
def zt(s1_1:List PT)(s2_2:List PT):M Bool:=
 cond ((!decide ((s1_1.length:Int)=(s2_2.length:Int))))
  (M.pure false)
  (M.bind (M.loop (zn s1_1 s2_2) 0) (M.exk (fun _=>
  M.pure true)))
def v8a(a1:List PT)(b2:List PT):M Bool:=
 M.bind (M.det (zt a1 b2)) fun v3=>
 M.pure v3
def ZX(c1:List PT):M Bool:=
 M.bind (M.det (un c1)) fun v2=>
 M.bind (M.det (v8a c1 v2)) fun v4=>
 M.pure v4
def Zy(a1:DT)(b2:DT):M Int:=
 M.bind (M.det (vM a1.dev b2.dev)) fun v3=>
 cond (!decide (v3=0))
  (M.pure v3)
  (M.bind (M.det (xp a1.n b2.n)) fun v6=>
  M.pure v6)
def Yi(d1:DT):M Bool:=
 M.bind (cond (decide (0 < d1.dev))
  (cond (decide (0 < d1.n))
   (M.pure (decide (d1.n<=281474976710655)))
   (M.pure false))
  (M.pure false)) (fun v2=>
 M.pure v2)
def Xe(v1:Int):M (Int×Int):=
 M.pure (((IntKind.u16.wrap (Int.fdiv v1 (2 ^ 48))),(bAnd .u64 v1 281474976710655)))
def Wz(v1:Int):M (DT×Bool):=
 M.bind (M.det (Xe v1)) fun v2=>
 M.bind (M.det (Yi (⟨v2.1,v2.2⟩:DT))) fun v4=>
 cond (!v4)
  (M.pure ((⟨0,0⟩:DT),false))
  (M.pure ((⟨v2.1,v2.2⟩:DT),true))
def VA(f1:Int):M Bool:=
 M.bind (cond (decide (1<=f1))
  (M.pure (decide (f1<=5)))
  (M.pure false)) (fun v2=>
 M.pure v2)
def uI(s1:ByteArray):Int->M (M.Step Int (M.Ex Unit Bool)):=fun v20=>
 cond ((decide (v20 < (ByteArray.size s1:Int))))
  (M.bind (M.bind (M.idx (xW s1) v20) fun b23=>
  cond (decide (b23 < 32))
   (M.pure true)
   (M.bind (M.idx (xW s1) v20) fun b26=>
   M.pure (decide (126 < b26)))) (fun v22=>
  cond v22
   (M.pure (.done (.ret false)))
   (M.pure (.next (IntKind.i64.wrap (v20+1))))))
  (M.pure (.done (.brk ())))
def VB(s1:ByteArray):M Bool:=
 cond ((decide (60 < (ByteArray.size s1:Int))))
  (M.pure false)
  (M.bind (M.loop (uI s1) 0) (M.exk (fun _=>
  M.pure true)))
def xq(l1:List DT):Int->M (M.Step Int (M.Ex Unit Bool)):=fun v23=>
 cond ((decide (v23 < (l1.length:Int))))
  (M.bind (cond (decide (0 < v23))
   (M.bind (M.idx l1 (IntKind.i64.wrap (v23 - 1))) fun x27=>
   M.bind (M.idx l1 v23) fun x29=>
   M.bind (M.det (Zy x27 x29)) fun v31=>
   M.pure (decide (0<=v31)))
   (M.pure false)) (fun v25=>
  cond v25
   (M.pure (.done (.ret false)))
   (M.pure (.next (IntKind.i64.wrap (v23+1))))))
  (M.pure (.done (.brk ())))
def VC(l1:List DT):M Bool:=
 M.bind (M.loop (xq l1) 0) (M.exk (fun _=>
 M.pure true))
def uJ(e1:EV):Int->M (M.Step Int (M.Ex Unit Bool)):=fun v43=>
 cond ((decide (v43 < (e1.kills.length:Int))))
  (M.bind (M.idx e1.kills v43) fun x45=>
  M.bind (M.bind (M.det (Yi x45)) fun v48=>
  cond (!v48)
   (M.pure true)
   (M.pure (((decide (x45.dev=e1.dot.dev)&&decide (x45.n=e1.dot.n)))))) (fun v47=>
  cond v47
   (M.pure (.done (.ret false)))
   (M.pure (.next (IntKind.i64.wrap (v43+1))))))
  (M.pure (.done (.brk ())))
def Zp(e1:EV):M Bool:=
 M.bind (M.det (Wz e1.cid)) fun v2=>
 M.bind (cond (!v2.2)
  (M.pure true)
  (M.bind (M.det (Yi e1.dot)) fun v6=>
  M.pure (!v6))) (fun v4=>
 cond v4
  (M.pure false)
  (M.bind (cond (decide (e1.kind=1))
   (M.bind (M.bind (M.det (VA e1.field)) fun v11=>
   cond (!v11)
    (M.pure true)
    (M.bind (M.det (VB e1.text)) fun v14=>
    M.pure (!v14))) (fun v10=>
   cond v10
    (M.pure (.ret false))
    (M.pure (.brk ()))))
   (cond (decide (e1.kind=2))
    (M.bind (cond (!decide (e1.field=0))
     (M.pure true)
     (M.pure ((!decide (e1.text=(⟨#[]⟩:ByteArray)))))) (fun v18=>
    cond v18
     (M.pure (.ret false))
     (M.pure (.brk ()))))
    (M.pure (.ret false)))) (M.exk (fun _=>
  M.bind (cond ((decide (256 < (e1.kills.length:Int))))
   (M.pure true)
   (M.bind (M.det (VC e1.kills)) fun v23=>
   M.pure (!v23))) (fun v21=>
  cond v21
   (M.pure false)
   (M.bind (M.loop (uJ e1) 0) (M.exk (fun _=>
   M.pure true))))))))
def yx(s1:List DT)(v2:DT):Int->M (M.Step Int (M.Ex Unit Int)):=fun v12=>
 cond ((decide (v12 < (s1.length:Int))))
  (M.bind (M.idx s1 v12) fun x14=>
  cond (((decide (v2.dev=x14.dev)&&decide (v2.n=x14.n))))
   (M.pure (.done (.ret v12)))
   (M.pure (.next (IntKind.i64.wrap (v12+1)))))
  (M.pure (.done (.brk ())))
def wv(s1:List DT)(v2:DT):M Int:=
 M.bind (M.loop (yx s1 v2) 0) (M.exk (fun _=>
 M.pure (-1)))
def xg(s1:List DT)(v2:DT):M Bool:=
 M.bind (M.det (wv s1 v2)) fun v3=>
 M.pure (decide (0<=v3))
def yCa(l1:List DT)(d2:DT):M Bool:=
 M.bind (M.det (xg l1 d2)) fun v3=>
 M.pure v3
def UJ(e1:EV)(d2:DT):M Bool:=
 M.bind (M.det (yCa e1.kills d2)) fun v3=>
 M.pure v3
def ZY(l1:List EV)(d2:DT):Int->M (M.Step Int (M.Ex Unit Bool)):=fun v16=>
 cond ((decide (v16 < (l1.length:Int))))
  (M.bind (M.idx l1 v16) fun x18=>
  M.bind (M.det (UJ x18 d2)) fun v20=>
  cond v20
   (M.pure (.done (.ret true)))
   (M.pure (.next (IntKind.i64.wrap (v16+1)))))
  (M.pure (.done (.brk ())))
def ua(l1:List EV)(d2:DT):M Bool:=
 M.bind (M.loop (ZY l1 d2) 0) (M.exk (fun _=>
 M.pure false))
def yr(s1:List DT):M (List DT):=
 M.bind (M.isNil s1) fun b2=>
 cond b2
  (M.pure ([]:List DT))
  (M.yk ((List.length ([]:List DT)+s1.length)*16<=140737488355328) <|
  M.pure (([]:List DT)++s1))
def vF(e1:EV):M EV:=
 M.bind (M.det (yr e1.kills)) fun v2=>
 M.pure (⟨e1.dot,e1.kind,e1.cid,e1.field,e1.text,v2⟩:EV)
def yG(row1:List DT)(k148:Int):Int×Int×List DT->M (M.Step (Int×Int×List DT) (Int×List DT)):=fun⟨k197,k2_198,v199⟩=>
 cond ((decide (k2_198 < ((((row1.length - Int.toNat k148):Nat):Int)))))
  (M.bind (M.yk ((0:Int)<=k2_198/\k2_198 < (((row1.length - Int.toNat k148):Nat):Int))<|M.bind (M.idx v199 ((((Int.toNat k148)+Int.toNat k2_198):Nat):Int)) fun x203=>
  M.yk ((0:Int)<=(IntKind.i64.wrap (k2_198 - 1))/\(IntKind.i64.wrap (k2_198 - 1)) < (((row1.length - Int.toNat k148):Nat):Int))<|M.bind (M.idx v199 ((((Int.toNat k148)+Int.toNat (IntKind.i64.wrap (k2_198 - 1))):Nat):Int)) fun x207=>
  cond ((!(decide (x203.dev=x207.dev)&&decide (x203.n=x207.n))))
   (M.yk ((0:Int)<=k2_198/\k2_198 < (((row1.length - Int.toNat k148):Nat):Int))<|M.bind (M.idx v199 ((((Int.toNat k148)+Int.toNat k2_198):Nat):Int)) fun x212=>
   M.bind (M.idx v199 k197) fun x216=>
   M.pure (((IntKind.i64.wrap (k197+1)),(List.set v199 (Int.toNat k197) x212))))
   (M.pure (k197,v199))) (fun⟨k201,v202⟩=>
  M.pure (.next ((k201,(IntKind.i64.wrap (k2_198+1)),v202)))))
  (M.pure (.done (k197,v199)))
def yH(row1:List DT):Int->M (M.Step Int (M.Ex Unit (List DT))):=fun k148=>
 cond ((decide (k148 < ((row1.length):Int))))
  (M.bind (M.bind (M.idx row1 k148) fun x150=>
  M.bind (M.idx row1 (IntKind.i64.wrap (k148 - 1))) fun x152=>
  cond (((decide (x150.dev=x152.dev)&&decide (x150.n=x152.n))))
   (M.yk ((0:Int)<=k148/\k148<=(row1.length:Int)) <|
   M.bind (M.loop (yG row1 k148) (k148,1,row1)) (fun⟨k156,v157⟩=>
   M.yk ((0:Int)<=k156/\k156<=(v157.length:Int)) <|
   M.yk ((Int.toNat k156)+(v157.length - Int.toNat k156)<=v157.length) <|
   M.yk ((0:Int)<=0/\(0:Int)<=k156/\k156<=(List.length ((List.take (Int.toNat k156) v157++List.replicate (v157.length - Int.toNat k156) (⟨0,0⟩:DT)++List.drop ((Int.toNat k156)+(v157.length - Int.toNat k156)) v157)):Int)) <|
   M.pure (.ret ((.done ((.ret (((List.take (Int.toNat k156) ((List.take (Int.toNat k156) v157++List.replicate (v157.length - Int.toNat k156) (⟨0,0⟩:DT)++List.drop ((Int.toNat k156)+(v157.length - Int.toNat k156)) v157))))))))))))
   (M.pure (.brk ()))) (M.exk (fun _=>
  M.pure (.next (IntKind.i64.wrap (k148+1))))))
  (M.pure (.done (.brk ())))
def yV(row1:List DT):M (List DT):=
 cond ((decide (((row1.length):Int) < 2)))
  (M.pure row1)
  (M.bind (M.loop (yH row1) 1) (M.exk (fun _=>
  M.pure row1)))
def VD(l1:List DT):M (List DT):=
 M.bind (M.det (yr l1)) fun v2=>
 M.yk (v2.length < 4611686018427387904)<|M.bind (M.srt zr v2) fun s4=>
 M.bind (M.det (yV s4)) fun y8=>
 M.pure y8
def Zz(x1:RN)(n2:Int):M Int:=
 M.bind (M.det (xp x1.hi n2)) fun v3=>
 M.pure v3
def zo(x1:List RN)(target2:Int):Int×Int->M (M.Step (Int×Int) Int):=fun⟨i18,j19⟩=>
 cond (decide (i18 < j19))
  (M.bind (M.idx x1 ((IntKind.i64.wrap ((Int.fdiv ((IntKind.u64.wrap (IntKind.i64.wrap (i18+j19)))) (2 ^ 1)))))) fun x21=>
  M.bind (M.det (Zz x21 target2)) fun v23=>
  cond (decide (v23 < 0))
   (M.pure (.next (((IntKind.i64.wrap (((IntKind.i64.wrap ((Int.fdiv ((IntKind.u64.wrap (IntKind.i64.wrap (i18+j19)))) (2 ^ 1)))))+1)),j19))))
   (M.pure (.next ((i18,(IntKind.i64.wrap ((Int.fdiv ((IntKind.u64.wrap (IntKind.i64.wrap (i18+j19)))) (2 ^ 1)))))))))
  (M.pure (.done i18))
def zh(x1:List RN)(target2:Int):M (Int×Bool):=
 M.bind (M.loop (zo x1 target2) (0,(x1.length:Int))) (fun i3=>
 M.bind (cond ((decide (i3 < (x1.length:Int))))
  (M.bind (M.idx x1 i3) fun x28=>
  M.bind (M.det (Zz x28 target2)) fun v30=>
  M.pure (decide (v30=0)))
  (M.pure false)) (fun v26=>
 M.pure (i3,v26)))
def Jl(l1:List RN)(n2:Int):M Bool:=
 M.bind (M.det (ux l1)) fun v3=>
 M.bind (M.det (zh v3 n2)) fun v5=>
 M.bind (cond ((decide (v5.1 < (v3.length:Int))))
  (M.bind (M.idx v3 v5.1) fun x9=>
  M.pure (decide (x9.lo<=n2)))
  (M.pure false)) (fun v7=>
 M.pure v7)
def Jm(c1:List PT)(dev2:Int):M (List RN):=
 M.bind (M.det (Un c1)) fun v3=>
 M.bind (M.det (ux (AL.getZ v3 dev2 ([]:List RN)))) fun v6=>
 M.pure v6
def qw(c1:List PT)(d2:DT):M Bool:=
 M.bind (cond (decide (0 < d2.dev))
  (M.bind (M.det (Jm c1 d2.dev)) fun v5=>
  M.bind (M.det (Jl v5 d2.n)) fun v7=>
  M.pure v7)
  (M.pure false)) (fun v3=>
 M.pure v3)
def ZZ(l1:List DT)(c2:List PT)(has3:Bool):Int×List DT->M (M.Step (Int×List DT) (List DT)):=fun⟨v23,out24⟩=>
 cond ((decide (v23 < (l1.length:Int))))
  (M.bind (M.bind (M.idx l1 v23) fun x27=>
  M.bind (M.det (qw c2 x27)) fun v29=>
  cond (v29==has3)
   (M.yk ((out24.length+List.length ([x27]))*16<=140737488355328) <|
   M.pure (out24++[x27]))
   (M.pure out24)) (fun out26=>
  M.pure (.next (((IntKind.i64.wrap (v23+1)),out26)))))
  (M.pure (.done out24))
def jd(l1:List DT)(c2:List PT)(has3:Bool):M (List DT):=
 M.bind (M.loop (ZZ l1 c2 has3) (0,([]:List DT))) (fun out4=>
 M.bind (M.det (VD out4)) fun v33=>
 M.pure v33)
def VE(l1:List DT)(c2:List PT):M (List DT):=
 M.bind (M.det (jd l1 c2 false)) fun v3=>
 M.pure v3
def Za(l1:List EV):Int×List DT->M (M.Step (Int×List DT) (List DT)):=fun⟨v15,out16⟩=>
 cond ((decide (v15 < (l1.length:Int))))
  (M.bind (M.idx l1 v15) fun x18=>
  M.yk ((out16.length+List.length ([x18.dot]))*16<=140737488355328) <|
  M.yk ((List.length (out16++[x18.dot])+x18.kills.length)*16<=140737488355328) <|
  M.pure (.next (((IntKind.i64.wrap (v15+1)),((out16++[x18.dot])++x18.kills)))))
  (M.pure (.done out16))
def VF(l1:List EV):M (List DT):=
 M.bind (M.loop (Za l1) (0,([]:List DT))) (fun out2=>
 M.bind (M.det (VD out2)) fun v22=>
 M.pure v22)
def xF(n1:Int):M (List PT):=
 cond (decide (n1 < 0))
  M.fail
  (M.bind (cond ((decide (0 < ((IntKind.i64.wrap (n1 - (IntKind.i64.wrap (0 - 0))))))))
   (M.yk (0 < ((IntKind.i64.wrap (n1 - (IntKind.i64.wrap (0 - 0)))))/\((IntKind.i64.wrap (n1 - (IntKind.i64.wrap (0 - 0)))))*32<=140737488355328) <|
   M.yk ((0:Int)<=0/\(0:Int)<=0/\0<=(List.length ((List.replicate (Int.toNat ((IntKind.i64.wrap (n1 - (IntKind.i64.wrap (0 - 0)))))) (⟨0,([]:List RN)⟩:PT))):Int)) <|
   M.pure ((List.take (Int.toNat 0) ((List.replicate (Int.toNat ((IntKind.i64.wrap (n1 - (IntKind.i64.wrap (0 - 0)))))) (⟨0,([]:List RN)⟩:PT))))))
   (M.pure ([]))) (fun v3=>
  M.pure v3))
def yA(slices1:List (List PT)):Int×Int->M (M.Step (Int×Int) Int):=fun⟨size13,v14⟩=>
 cond ((decide (v14 < (slices1.length:Int))))
  (M.bind (M.idx slices1 v14) fun x16=>
  cond ((decide (((IntKind.i64.wrap (size13+(x16.length:Int)))) < 0)))
   M.fail
   (M.pure (.next (((IntKind.i64.wrap (size13+(x16.length:Int))),(IntKind.i64.wrap (v14+1)))))))
  (M.pure (.done size13))
def yB(slices1:List (List PT)):Int×List PT->M (M.Step (Int×List PT) (List PT)):=fun⟨v32,v33⟩=>
 cond ((decide (v32 < (slices1.length:Int))))
  (M.bind (M.idx slices1 v32) fun x35=>
  M.yk ((v33.length+x35.length)*32<=140737488355328) <|
  M.pure (.next (((IntKind.i64.wrap (v32+1)),(v33++x35)))))
  (M.pure (.done v33))
def xf(slices1:List (List PT)):M (List PT):=
 M.bind (M.loop (yA slices1) (0,0)) (fun size2=>
 M.bind (M.det (xF size2)) fun v19=>
 M.bind (M.loop (yB slices1) (0,v19)) (fun v21=>
 M.pure v21))
def Jo(a1:List PT)(b2:List PT):M (List PT):=
 M.bind (M.det (xf ([a1,b2]))) fun v3=>
 M.bind (M.det (un v3)) fun v5=>
 M.pure v5
def uy :M (Int×Int×A16×Bool×(List (Int×TMember))):=
 M.pure ((1,0,(0,0,0,0,0,0,0,0,0,0,0,0,0,0,0,0),false,([]:List (Int×TMember))))
def yb(epoch_1:Int)(last_2:Int)(c3:A16)(nl4:Bool)(m5:List (Int×TMember)):M Bool:=
 M.pure (decide (epoch_1=0))
def vj(m5:List (Int×TMember)):List Nat×List TMember->M (M.Step (List Nat×List TMember) (List TMember)):=fun⟨seen29,out30⟩=>
 M.yk (∀ i∈seen29,i < m5.length)<|M.bind (M.nxt (m5.length) seen29) fun o=>match o with
 | none=>
  M.pure (.done out30)
 | some j31=>
  M.bind (M.idx m5 (Int.ofNat j31)) fun kv35=>
  M.yk ((out30.length+List.length ([kv35.2]))*16<=140737488355328) <|
  M.pure (.next ((seen29++[j31]),(out30++[kv35.2])))
def yt(epoch_1:Int)(last_2:Int)(c3:A16)(nl4:Bool)(m5:List (Int×TMember)):M (List TMember):=
 M.bind (M.det (yb epoch_1 last_2 c3 nl4 m5)) fun y6=>
 cond y6
  (M.pure ([]:List TMember))
  (M.bind (M.loop (vj m5) ([],([]:List TMember))) (fun out10=>
  M.yk (out10.length < 4611686018427387904)<|M.bind (M.srt vL out10) fun s39=>
  M.pure s39))
def WT(y7:List TMember)(slot1:Int):Int->M (M.Step Int (M.Ex Unit (TMember×Bool))):=fun v18=>
 cond ((decide (v18 < (y7.length:Int))))
  (M.bind (M.idx y7 v18) fun x20=>
  cond (decide (x20.slot=slot1))
   (M.pure (.done (.ret (x20,true))))
   (M.pure (.next (IntKind.i64.wrap (v18+1)))))
  (M.pure (.done (.brk ())))
def xr(slot1:Int)(epoch_2:Int)(last_3:Int)(c4:A16)(nl5:Bool)(m6:List (Int×TMember)):M (TMember×Bool):=
 M.bind (M.det (yt epoch_2 last_3 c4 nl5 m6)) fun y7=>
 M.bind (M.loop (WT y7 slot1) 0) (M.exk (fun _=>
 M.pure ((⟨0,0,0⟩:TMember),false)))
def ZI(members3:List TMember)(last2:Int)(y9:Int×Int×A16×Bool×(List (Int×TMember)))(tries4:List Int)(epoch1:Int):Int×(List (Int×TMember))->M (M.Step (Int×(List (Int×TMember))) (M.Ex (List (Int×TMember)) (Unit⊕(Int×Int×A16×Bool×(List (Int×TMember)))))):=fun⟨v52,v53⟩=>
 cond ((decide (v52 < (members3.length:Int))))
  (M.bind (M.idx members3 v52) fun x55=>
  M.bind (cond (decide (x55.dev=0))
   (M.pure true)
   (cond (decide (last2 < x55.dev))
    (M.pure true)
    (cond (decide (0 < v52))
     (M.bind (M.idx members3 (IntKind.i64.wrap (v52 - 1))) fun x61=>
     M.pure (decide (x55.dev<=x61.dev)))
     (M.pure false)))) (fun v57=>
  cond v57
   (M.pure (.done ((.ret (.inl ())))))
   (M.bind (cond (decide (16<=x55.slot))
    (M.pure true)
    (cond (decide (x55.try_=0))
     (M.pure true)
     (M.yk ((0:Int)<=x55.slot/\x55.slot < ((16:Nat):Int)) <|
     M.pure ((!decide ((AR.get (AR.over y9.2.2.1 tries4) (Int.toNat x55.slot))=x55.try_)))))) (fun v64=>
   cond v64
    (M.pure (.done ((.ret (.inl ())))))
    (M.bind (M.det (xr x55.slot epoch1 last2 (AR.over y9.2.2.1 tries4) y9.2.2.2.1 v53)) fun y69=>
    cond y69.2
     (M.pure (.done ((.ret (.inl ())))))
     (M.yk (y9.2.2.2.1=false) <|
     M.pure (.next (((IntKind.i64.wrap (v52+1)),(AL.set v53 x55.dev x55))))))))))
  (M.pure (.done (.brk v53)))
def uK(epoch1:Int)(last2:Int)(members3:List TMember)(tries4:List Int):M (Unit⊕(Int×Int×A16×Bool×(List (Int×TMember)))):=
 M.bind (cond (decide (epoch1=0))
  (M.pure true)
  (cond (decide (281474976710655 < epoch1))
   (M.pure true)
   (M.pure ((!decide ((tries4.length:Int)=16)))))) (fun v5=>
 cond v5
  (M.pure (.inl ()))
  (M.bind (M.det (uy)) fun y9=>
  M.bind (M.loop (ZI members3 last2 y9 tries4 epoch1) (0,y9.2.2.2.2)) (M.exk (fun v11=>
  M.pure (.inr (epoch1,last2,(AR.over y9.2.2.1 tries4),y9.2.2.2.1,v11))))))
def XC(e1:EV)(nl2:Bool)(m3:List (DT×EV)):M (Bool×(List (DT×EV))):=
 M.bind (cond nl2
  (M.pure ([]:List (DT×EV)))
  (M.pure m3)) (fun v4=>
 M.bind (M.det (vF e1)) fun v9=>
 M.pure (false,(AL.set v4 e1.dot v9)))
def yd(l2:List EV):Int×Bool×(List (DT×EV))×Bool×(List (DT×EV))->M (M.Step (Int×Bool×(List (DT×EV))×Bool×(List (DT×EV))) (M.Ex (Bool×(List (DT×EV))×Bool×(List (DT×EV))) (Unit⊕(List PT×Bool×(List (DT×EV))×Bool×(List (DT×EV)))))):=fun⟨v72,nl73,v74,nl75,v76⟩=>
 cond ((decide (v72 < (l2.length:Int))))
  (M.bind (M.bind (M.idx l2 v72) fun x82=>
  M.bind (M.bind (M.det (Zp x82)) fun v85=>
  cond (!v85)
   (M.pure true)
   (cond (decide (0 < v72))
    (M.bind (M.idx l2 (IntKind.i64.wrap (v72 - 1))) fun x89=>
    M.bind (M.det (Zy x89.dot x82.dot)) fun v91=>
    cond (decide (0<=v91))
     (M.pure true)
     (cond (decide (x82.kind=1))
      (M.bind (M.det (ua l2 x82.dot)) fun v95=>
      M.pure v95)
      (M.pure false)))
    (cond (decide (x82.kind=1))
     (M.bind (M.det (ua l2 x82.dot)) fun v98=>
     M.pure v98)
     (M.pure false)))) (fun v84=>
  cond v84
   (M.pure (.ret ((.done ((.ret (.inl ())))))))
   (cond (decide (x82.kind=1))
    (M.bind (M.det (XC x82 nl75 v76)) fun y102=>
    M.pure (.brk (nl73,v74,y102.1,y102.2)))
    (M.bind (M.det (XC x82 nl73 v74)) fun y104=>
    M.pure (.brk (y104.1,y104.2,nl75,v76)))))) (M.exk (fun⟨nl78,v79,nl80,v81⟩=>
  M.pure (.next (((IntKind.i64.wrap (v72+1)),nl78,v79,nl80,v81))))))
  (M.pure (.done (.brk (nl73,v74,nl75,v76))))
def YA(c1:List PT)(l2:List EV):M (Unit⊕(List PT×Bool×(List (DT×EV))×Bool×(List (DT×EV)))):=
 M.bind (M.det (un c1)) fun v3=>
 M.bind (M.loop (yd l2) ((0,true,([]:List (DT×EV)),true,([]:List (DT×EV))))) (M.exk (fun⟨nl5,v6,nl7,v8⟩=>
 M.bind (M.bind (M.det (ZX c1)) fun v107=>
 cond (!v107)
  (M.pure true)
  (M.bind (M.det (VF l2)) fun v110=>
  M.bind (M.det (VE v110 c1)) fun v112=>
  M.pure ((decide (0 < ((v112.length):Int)))))) (fun v106=>
 cond v106
  (M.pure (.inl ()))
  (M.pure (.inr (v3,nl7,v8,nl5,v6))))))
def WU :M (Bool×(List ((Int×Int)×List RN))):=
 M.pure ((true,([]:List ((Int×Int)×List RN))))
def vT(who1:Int)(nl2:Bool)(m3:List ((Int×Int)×List RN)):M Bool:=
 M.pure (AL.has m3 (who1,0))
def xL(who1:Int)(dev2:Int)(l3:List RN)(nl4:Bool)(m5:List ((Int×Int)×List RN)):M (Bool×(List ((Int×Int)×List RN))):=
 M.bind (cond nl4
  (M.pure (([]:List ((Int×Int)×List RN))))
  (M.pure m5)) (fun v6=>
 M.pure ((false,(AL.set v6 (who1,dev2) l3))))
def wd(who1:Int)(nl2:Bool)(m3:List ((Int×Int)×List RN)):M (Bool×Bool×(List ((Int×Int)×List RN))):=
 M.bind (cond (decide (who1=0))
  (M.pure true)
  (M.bind (M.det (vT who1 nl2 m3)) fun y6=>
  M.pure y6)) (fun v4=>
 cond v4
  (M.pure (false,nl2,m3))
  (M.bind (M.det (xL who1 0 ([]:List RN) nl2 m3)) fun y9=>
  M.pure (true,y9.1,y9.2)))
def YB(m3:List ((Int×Int)×List RN))(who1:Int):List Nat×List PT->M (M.Step (List Nat×List PT) (List PT)):=fun⟨seen30,c31⟩=>
 M.yk (∀ i∈seen30,i < m3.length)<|M.bind (M.nxt (m3.length) seen30) fun o=>match o with
 | none=>
  M.pure (.done c31)
 | some j32=>
  M.bind (M.idx m3 (Int.ofNat j32)) fun kv36=>
  cond (decide (kv36.1.1=who1))
   (M.yk ((c31.length+List.length ([(⟨kv36.1.2,kv36.2⟩:PT)]))*32<=140737488355328) <|
   M.pure (.next (((seen30++[j32]),(c31++[(⟨kv36.1.2,kv36.2⟩:PT)])))))
   (M.pure (.next ((seen30++[j32]),c31)))
def xj(who1:Int)(nl2:Bool)(m3:List ((Int×Int)×List RN)):M (List PT):=
 M.bind (M.loop (YB m3 who1) ([],([]:List PT))) (fun c5=>
 M.bind (M.det (un c5)) fun v43=>
 M.pure v43)
def ZT(v10:List PT)(who1:Int):Int×Bool×(List ((Int×Int)×List RN))->M (M.Step (Int×Bool×(List ((Int×Int)×List RN))) (Bool×(List ((Int×Int)×List RN)))):=fun⟨v27,nl28,v29⟩=>
 cond ((decide (v27 < ((v10.length):Int))))
  (M.bind (M.idx v10 v27) fun x31=>
  M.bind (M.det (xL who1 x31.dev x31.runs nl28 v29)) fun y33=>
  M.pure (.next (((IntKind.i64.wrap (v27+1)),y33.1,y33.2))))
  (M.pure (.done (nl28,v29)))
def we(who1:Int)(c2:List PT)(nl3:Bool)(m4:List ((Int×Int)×List RN)):M (Int×Bool×(List ((Int×Int)×List RN))):=
 M.bind (M.det (vT who1 nl3 m4)) fun y5=>
 cond (!y5)
  (M.pure (6,nl3,m4))
  (M.bind (M.det (xj who1 nl3 m4)) fun y8=>
  M.bind (M.det (Jo y8 c2)) fun v10=>
  M.bind (M.loop (ZT v10 who1) (0,nl3,m4)) (fun⟨nl12,v13⟩=>
  M.pure (0,nl12,v13)))
def ZJ(s1:THubState):Int×Bool×(List ((Int×Int)×List RN))->M (M.Step (Int×Bool×(List ((Int×Int)×List RN))) (M.Ex (Bool×(List ((Int×Int)×List RN))) (Unit⊕(Int×Int×A16×List PT×Bool×(List (Int×TMember))×Bool×(List ((Int×Int)×List RN))×Bool×(List (DT×EV))×Bool×(List (DT×EV)))))):=fun⟨v46,nl47,v48⟩=>
 cond ((decide (v46 < (s1.rows.length:Int))))
  (M.bind (M.idx s1.rows v46) fun x50=>
  M.bind (M.bind (M.idx s1.members v46) fun x53=>
  cond (!decide (x50.who=x53.dev))
   (M.pure true)
   (M.bind (M.det (ZX x50.have_)) fun v56=>
   M.pure (!v56))) (fun v52=>
  cond v52
   (M.pure (.done ((.ret (.inl ())))))
   (M.bind (M.det (wd x50.who nl47 v48)) fun y59=>
   M.bind (M.det (we x50.who x50.have_ y59.2.1 y59.2.2)) fun y61=>
   M.pure (.next (((IntKind.i64.wrap (v46+1)),y61.2.1,y61.2.2))))))
  (M.pure (.done (.brk (nl47,v48))))
def uL(s1:THubState):M (Unit⊕(Int×Int×A16×List PT×Bool×(List (Int×TMember))×Bool×(List ((Int×Int)×List RN))×Bool×(List (DT×EV))×Bool×(List (DT×EV)))):=
 M.bind (M.det (uK s1.epoch s1.last s1.members s1.tries)) fun y2=>
 M.sum y2 (fun z4=>
  M.pure (.inl ())) (fun z5=>
  M.bind (M.det (YA s1.ctx s1.all)) fun y6=>
  M.sum y6 (fun z8=>
   M.pure (.inl ())) (fun z9=>
   cond ((!decide ((s1.rows.length:Int)=(s1.members.length:Int))))
    (M.pure (.inl ()))
    (M.bind (M.det (WU)) fun y11=>
    M.bind (M.loop (ZJ s1) (0,y11.1,y11.2)) (M.exk (fun⟨nl13,v14⟩=>
    M.pure (.inr (z5.1,z5.2.1,z5.2.2.1,z9.1,z5.2.2.2.1,z5.2.2.2.2,nl13,v14,z9.2.1,z9.2.2.1,z9.2.2.2.1,z9.2.2.2.2)))))))
def Zq(s1:THubState):M Bool:=
 M.bind (M.bind (M.det (uL s1)) fun y3=>
 M.sum y3 (fun z5=>
  M.pure (1:Int)) (fun z6=>
  M.pure (0:Int))) (fun e2=>
 M.bind (cond (decide (e2=0))
  (M.pure ((decide ((s1.all.length:Int)<=4096))))
  (M.pure false)) (fun v7=>
 M.pure v7))
def Yj :Int×Int->M (M.Step (Int×Int) Int):=fun⟨v7,n8⟩=>
 cond (decide (0 < v7))
  (M.pure (.next (((Int.fdiv v7 (2 ^ 8)),(IntKind.i64.wrap (n8+1))))))
  (M.pure (.done n8))
def Uo(v1:Int):M Int:=
 M.bind (M.loop Yj (v1,0)) (fun n2=>
 M.pure n2)
def VG(v1:Int)(i2:Int):M Int:=
 cond ((decide (7 < (IntKind.u64.wrap i2))))
  (M.pure 0)
  (M.yk ((0:Int)<=((IntKind.u64.wrap (8*(IntKind.u64.wrap i2))))) <|
  M.pure ((IntKind.u8.wrap ((Int.fdiv v1 (2 ^ (min (Int.toNat ((IntKind.u64.wrap (8*(IntKind.u64.wrap i2))))) 64)))))))
def Zb(v2:Int):Int×List Int->M (M.Step (Int×List Int) (List Int)):=fun⟨i19,v20⟩=>
 cond (decide (0<=i19))
  (M.bind (M.det (VG v2 i19)) fun v22=>
  M.yk ((v20.length+List.length ([v22]))*1<=140737488355328) <|
  M.pure (.next (((IntKind.i64.wrap (i19 - 1)),(v20++[v22])))))
  (M.pure (.done v20))
def VH(b1:List Int)(v2:Int):M (List Int):=
 M.bind (M.det (Uo v2)) fun v3=>
 M.yk ((0:Int)<=((IntKind.i64.wrap (((IntKind.i64.wrap ((b1.length:Int)+v3)))+1)))/\((IntKind.i64.wrap (((IntKind.i64.wrap ((b1.length:Int)+v3)))+1)))*1<=140737488355328) <|
 M.yk ((List.length ([]:List Int)+b1.length)*1<=140737488355328) <|
 M.yk ((List.length (([]:List Int)++b1)+List.length ([(IntKind.u8.wrap v3)]))*1<=140737488355328) <|
 M.bind (M.loop (Zb v2) (((IntKind.i64.wrap (v3 - 1)),((([]:List Int)++b1)++[(IntKind.u8.wrap v3)])))) (fun v8=>
 M.pure v8)
def xY(b1:List Int)(row2:List Int):M (List Int):=
 M.yk ((row2.length+b1.length)*1<=140737488355328) <|
 M.pure (row2++b1)
def zb(v1:Int)(row2:List Int):M (List Int):=
 M.bind (M.det (VH ([]:List Int) v1)) fun v3=>
 M.bind (M.det (xY v3 row2)) fun y5=>
 M.pure y5
def xH(c1:Int)(row2:List Int):M (List Int):=
 M.bind (M.det (xY ([c1]) row2)) fun y3=>
 M.pure y3
def vc(x79:PT):Int×List Int->M (M.Step (Int×List Int) (List Int)):=fun⟨v101,v102⟩=>
 cond ((decide (v101 < (x79.runs.length:Int))))
  (M.bind (M.idx x79.runs v101) fun x104=>
  M.bind (M.det (zb x104.lo v102)) fun y106=>
  M.bind (M.det (zb x104.hi y106)) fun y108=>
  M.pure (.next (((IntKind.i64.wrap (v101+1)),y108))))
  (M.pure (.done v102))
def vd(v3:List PT):Int×List Int->M (M.Step (Int×List Int) (List Int)):=fun⟨v75,v76⟩=>
 cond ((decide (v75 < ((v3.length):Int))))
  (M.bind (M.bind (M.idx v3 v75) fun x79=>
  M.bind (M.det (zb (IntKind.u64.wrap x79.dev) v76)) fun y81=>
  M.bind (M.det (zb (IntKind.u64.wrap (x79.runs.length:Int)) y81)) fun y83=>
  M.loop (vc x79) (0,y83)) (fun v78=>
  M.pure (.next (((IntKind.i64.wrap (v75+1)),v78)))))
  (M.pure (.done v76))
def vG(c1:List PT)(row2:List Int):M (List Int):=
 M.bind (M.det (un c1)) fun v3=>
 M.bind (M.det (zb ((IntKind.u64.wrap ((v3.length):Int))) row2)) fun y5=>
 M.loop (vd v3) (0,y5)
def vv(d1:DT)(row2:List Int):M (List Int):=
 M.bind (M.det (zb (IntKind.u64.wrap d1.dev) row2)) fun y3=>
 M.bind (M.det (zb d1.n y3)) fun y5=>
 M.pure y5
def vN(s1:ByteArray)(row2:List Int):M (List Int):=
 M.bind (M.det (zb (IntKind.u64.wrap (ByteArray.size s1:Int)) row2)) fun y3=>
 M.yk (ByteArray.size s1<=9223372036854775807) <|
 M.bind (M.det (xY (xW s1) y3)) fun y6=>
 M.pure y6
def xt(l1:List DT):Int×List DT->M (M.Step (Int×List DT) (List DT)):=fun⟨v22,some23⟩=>
 cond ((decide (v22 < (l1.length:Int))))
  (M.bind (M.bind (M.idx l1 v22) fun x26=>
  M.bind (M.det (Yi x26)) fun v28=>
  cond v28
   (M.yk ((some23.length+List.length ([x26]))*16<=140737488355328) <|
   M.pure (some23++[x26]))
   (M.pure some23)) (fun some25=>
  M.pure (.next (((IntKind.i64.wrap (v22+1)),some25)))))
  (M.pure (.done some23))
def vO(v32:List DT):Int×List Int->M (M.Step (Int×List Int) (List Int)):=fun⟨v48,v49⟩=>
 cond ((decide (v48 < ((v32.length):Int))))
  (M.bind (M.idx v32 v48) fun x51=>
  M.bind (M.det (vv x51 v49)) fun y53=>
  M.pure (.next (((IntKind.i64.wrap (v48+1)),y53))))
  (M.pure (.done v49))
def uM(l1:List DT)(row2:List Int):M (List Int):=
 M.bind (M.loop (xt l1) (0,([]:List DT))) (fun some3=>
 M.bind (M.det (VD some3)) fun v32=>
 M.bind (M.det (zb ((IntKind.u64.wrap ((v32.length):Int))) row2)) fun y34=>
 M.loop (vO v32) (0,y34))
def Xf(e1:EV)(row2:List Int):M (List Int):=
 M.bind (M.det (vv e1.dot row2)) fun y3=>
 M.bind (M.det (xH e1.kind y3)) fun y5=>
 M.bind (M.det (zb e1.cid y5)) fun y7=>
 M.bind (M.det (xH e1.field y7)) fun y9=>
 M.bind (M.det (vN e1.text y9)) fun y11=>
 M.bind (M.det (uM e1.kills y11)) fun y13=>
 M.pure y13
def ve(l1:List EV):Int×List Int->M (M.Step (Int×List Int) (List Int)):=fun⟨v17,v18⟩=>
 cond ((decide (v17 < (l1.length:Int))))
  (M.bind (M.idx l1 v17) fun x20=>
  M.bind (M.det (Xf x20 v18)) fun y22=>
  M.pure (.next (((IntKind.i64.wrap (v17+1)),y22))))
  (M.pure (.done v18))
def uo(l1:List EV)(row2:List Int):M (List Int):=
 M.bind (M.det (zb (IntKind.u64.wrap (l1.length:Int)) row2)) fun y3=>
 M.loop (ve l1) (0,y3)
def ww(row1:List Int):M (List Int×List Int):=
 M.yk (row1.length*1<=140737488355328) <|
 M.pure (row1,row1)
def WV(s1:THubState):Int×List Int->M (M.Step (Int×List Int) (List Int)):=fun⟨v32,v33⟩=>
 cond ((decide (v32 < (s1.members.length:Int))))
  (M.bind (M.idx s1.members v32) fun x35=>
  M.bind (M.det (zb (IntKind.u64.wrap x35.dev) v33)) fun y37=>
  M.bind (M.det (xH x35.slot y37)) fun y39=>
  M.bind (M.det (zb x35.try_ y39)) fun y41=>
  M.pure (.next (((IntKind.i64.wrap (v32+1)),y41))))
  (M.pure (.done v33))
def WW(s1:THubState):Int×List Int->M (M.Step (Int×List Int) (List Int)):=fun⟨v56,v57⟩=>
 cond ((decide (v56 < (s1.tries.length:Int))))
  (M.bind (M.idx s1.tries v56) fun x59=>
  M.bind (M.det (zb x59 v57)) fun y61=>
  M.pure (.next (((IntKind.i64.wrap (v56+1)),y61))))
  (M.pure (.done v57))
def WX(s1:THubState):Int×List Int->M (M.Step (Int×List Int) (List Int)):=fun⟨v76,v77⟩=>
 cond ((decide (v76 < (s1.rows.length:Int))))
  (M.bind (M.idx s1.rows v76) fun x79=>
  M.bind (M.det (vG x79.have_ v77)) fun y81=>
  M.pure (.next (((IntKind.i64.wrap (v76+1)),y81))))
  (M.pure (.done v77))
def Uq(s1:THubState):M (List Int×Int):=
 M.bind (M.det (Zq s1)) fun v2=>
 cond (!v2)
  (M.pure (([]:List Int),1))
  (M.bind (M.det (zb s1.epoch ([]:List Int))) fun y5=>
  M.bind (M.det (zb (IntKind.u64.wrap s1.last) y5)) fun y7=>
  M.bind (M.det (zb (IntKind.u64.wrap (s1.members.length:Int)) y7)) fun y9=>
  M.bind (M.loop (WV s1) (0,y9)) (fun v11=>
  M.bind (M.loop (WW s1) (0,v11)) (fun v43=>
  M.bind (M.loop (WX s1) (0,v43)) (fun v63=>
  M.bind (M.det (vG s1.ctx v63)) fun y83=>
  M.bind (M.det (uo s1.all y83)) fun y85=>
  M.bind (M.det (ww y85)) fun y87=>
  M.pure (y87.1,0)))))
def WY(a1:List Int)(b2:List Int):M Bool:=
 M.pure ((decide ((wha a1)=(wha b2))))
def yh(s1:List Int):M (List Int):=
 M.bind (M.isNil s1) fun b2=>
 cond b2
  (M.pure ([]:List Int))
  (M.yk ((List.length ([]:List Int)+s1.length)*8<=140737488355328) <|
  M.pure (([]:List Int)++s1))
def je :M (List PT×Bool×(List (DT×EV))×Bool×(List (DT×EV))):=
 M.pure ((([]:List PT),true,([]:List (DT×EV)),true,([]:List (DT×EV))))
def WZ :M (Int×Int×A16×List PT×Bool×(List (Int×TMember))×Bool×(List ((Int×Int)×List RN))×Bool×(List (DT×EV))×Bool×(List (DT×EV))):=
 M.bind (M.det (uy)) fun y1=>
 M.bind (M.det (WU)) fun y3=>
 M.bind (M.det (je)) fun y5=>
 M.pure (y1.1,y1.2.1,y1.2.2.1,y5.1,y1.2.2.2.1,y1.2.2.2.2,y3.1,y3.2,y5.2.1,y5.2.2.1,y5.2.2.2.1,y5.2.2.2.2)
def vo(epoch_1:Int)(last_2:Int)(c3:A16)(ctx_4:List PT)(nl5:Bool)(m6:List (Int×TMember))(nl7:Bool)(m8:List ((Int×Int)×List RN))(nl9:Bool)(m10:List (DT×EV))(nl11:Bool)(m12:List (DT×EV)):M Bool:=
 M.pure false
def xu(epoch_1:Int)(last_2:Int)(c3:A16)(nl4:Bool)(m5:List (Int×TMember)):M Int:=
 M.bind (M.det (yb epoch_1 last_2 c3 nl4 m5)) fun y6=>
 cond y6
  (M.pure 0)
  (M.pure epoch_1)
def wW(epoch_1:Int)(last_2:Int)(c3:A16)(nl4:Bool)(m5:List (Int×TMember)):M Int:=
 M.bind (M.det (yb epoch_1 last_2 c3 nl4 m5)) fun y6=>
 cond y6
  (M.pure 0)
  (M.pure last_2)
def xv(epoch_1:Int)(last_2:Int)(c3:A16)(nl4:Bool)(m5:List (Int×TMember)):M (List Int):=
 M.bind (M.det (yb epoch_1 last_2 c3 nl4 m5)) fun y6=>
 cond y6
  (M.pure ([]:List Int))
  (M.bind (M.det (yh (AR.l c3))) fun v9=>
  M.pure v9)
def uN(ctx_1:List PT)(nl2:Bool)(m3:List (DT×EV))(nl4:Bool)(m5:List (DT×EV)):M (List PT):=
 M.bind (M.det (un ctx_1)) fun v6=>
 M.pure v6
def Wa(m2:List (DT×EV)):List Nat×List EV->M (M.Step (List Nat×List EV) (List EV)):=fun⟨seen32,out33⟩=>
 M.yk (∀ i∈seen32,i < m2.length)<|M.bind (M.nxt (m2.length) seen32) fun o=>match o with
 | none=>
  M.pure (.done out33)
 | some j34=>
  M.bind (M.idx m2 (Int.ofNat j34)) fun kv38=>
  M.bind (M.det (vF kv38.2)) fun v40=>
  M.yk ((out33.length+List.length ([v40]))*80<=140737488355328) <|
  M.pure (.next ((seen32++[j34]),(out33++[v40])))
def Wb(m4:List (DT×EV)):List Nat×List EV->M (M.Step (List Nat×List EV) (List EV)):=fun⟨seen70,out71⟩=>
 M.yk (∀ i∈seen70,i < m4.length)<|M.bind (M.nxt (m4.length) seen70) fun o=>match o with
 | none=>
  M.pure (.done out71)
 | some j72=>
  M.bind (M.idx m4 (Int.ofNat j72)) fun kv76=>
  M.bind (M.det (vF kv76.2)) fun v78=>
  M.yk ((out71.length+List.length ([v78]))*80<=140737488355328) <|
  M.pure (.next ((seen70++[j72]),(out71++[v78])))
def Yk(nl1:Bool)(m2:List (DT×EV))(nl3:Bool)(m4:List (DT×EV)):M (List EV):=
 M.bind (M.bind (M.loop (Wa m2) ([],([]:List EV))) (fun out8=>
 M.bind (M.loop (Wb m4) ([],out8)) (fun out46=>
 M.pure out46))) (fun out5=>
 M.yk (out5.length < 4611686018427387904)<|M.bind (M.srt UI out5) fun s82=>
 M.pure s82)
def uO(ctx_1:List PT)(nl2:Bool)(m3:List (DT×EV))(nl4:Bool)(m5:List (DT×EV)):M (List EV):=
 M.bind (M.det (Yk nl2 m3 nl4 m5)) fun y6=>
 M.pure y6
def XD(y20:List TMember)(nl7:Bool)(m8:List ((Int×Int)×List RN)):Int×List TRow->M (M.Step (Int×List TRow) (List TRow)):=fun⟨v43,v44⟩=>
 cond ((decide (v43 < (y20.length:Int))))
  (M.bind (M.idx y20 v43) fun x46=>
  M.bind (M.det (xj x46.dev nl7 m8)) fun y48=>
  M.yk ((v44.length+List.length ([(⟨x46.dev,y48⟩:TRow)]))*32<=140737488355328) <|
  M.pure (.next (((IntKind.i64.wrap (v43+1)),(v44++[(⟨x46.dev,y48⟩:TRow)])))))
  (M.pure (.done v44))
def xw(epoch_1:Int)(last_2:Int)(c3:A16)(ctx_4:List PT)(nl5:Bool)(m6:List (Int×TMember))(nl7:Bool)(m8:List ((Int×Int)×List RN))(nl9:Bool)(m10:List (DT×EV))(nl11:Bool)(m12:List (DT×EV)):M THubState:=
 M.bind (M.det (vo epoch_1 last_2 c3 ctx_4 nl5 m6 nl7 m8 nl9 m10 nl11 m12)) fun y13=>
 cond y13
  (M.pure (⟨0,0,([]:List TMember),([]:List Int),([]:List TRow),([]:List PT),([]:List EV)⟩:THubState))
  (M.bind (M.det (xu epoch_1 last_2 c3 nl5 m6)) fun y16=>
  M.bind (M.det (wW epoch_1 last_2 c3 nl5 m6)) fun y18=>
  M.bind (M.det (yt epoch_1 last_2 c3 nl5 m6)) fun y20=>
  M.bind (M.det (xv epoch_1 last_2 c3 nl5 m6)) fun y22=>
  M.bind (M.det (uN ctx_4 nl9 m10 nl11 m12)) fun y24=>
  M.bind (M.det (uO ctx_4 nl9 m10 nl11 m12)) fun y26=>
  M.bind (M.loop (XD y20 nl7 m8) (0,([]:List TRow))) (fun v28=>
  M.pure (⟨y16,y18,y20,y22,v28,y24,y26⟩:THubState)))
def Wc :M Bool:=
 M.bind (M.det (WZ)) fun y1=>
 M.bind (M.det (xw y1.1 y1.2.1 y1.2.2.1 y1.2.2.2.1 y1.2.2.2.2.1 y1.2.2.2.2.2.1 y1.2.2.2.2.2.2.1 y1.2.2.2.2.2.2.2.1 y1.2.2.2.2.2.2.2.2.1 y1.2.2.2.2.2.2.2.2.2.1 y1.2.2.2.2.2.2.2.2.2.2.1 y1.2.2.2.2.2.2.2.2.2.2.2)) fun y3=>
 M.bind (M.det (Uq y3)) fun v5=>
 M.bind (cond (decide (v5.2=0))
  (cond ((decide ((v5.1.length:Int)=22)))
   (M.bind (M.idx v5.1 0) fun x10=>
   cond (decide (x10=1))
    (M.bind (M.idx v5.1 1) fun x13=>
    cond (decide (x13=1))
     (M.yk ((0:Int)<=2/\(2:Int)<=(v5.1.length:Int)/\(v5.1.length:Int)<=(v5.1.length:Int)) <|
     M.bind (M.det (WY ((List.drop (Int.toNat 2) (List.take (Int.toNat (v5.1.length:Int)) v5.1))) (List.replicate 20 0))) fun v17=>
     M.pure v17)
     (M.pure false))
    (M.pure false))
   (M.pure false))
  (M.pure false)) (fun v7=>
 M.pure v7)
def qx(i76:Int)(l3:List TMember)(x78:TMember):Int->M (M.Step Int (M.Ex Unit (M.Step Int (M.Ex Unit Bool)))):=fun k105=>
 cond (decide (k105 < i76))
  (M.bind (M.idx l3 k105) fun x107=>
  cond (decide (x107.slot=x78.slot))
   (M.pure (.done ((.ret (.done (.ret false))))))
   (M.pure (.next (IntKind.i64.wrap (k105+1)))))
  (M.pure (.done (.brk ())))
def UK(l3:List TMember)(last2:Int)(tries4:List Int):Int->M (M.Step Int (M.Ex Unit Bool)):=fun i76=>
 cond ((decide (i76 < (l3.length:Int))))
  (M.bind (M.bind (M.idx l3 i76) fun x78=>
  M.bind (cond (decide (x78.dev=0))
   (M.pure true)
   (cond (decide (last2 < x78.dev))
    (M.pure true)
    (cond (decide (0 < i76))
     (M.bind (M.idx l3 (IntKind.i64.wrap (i76 - 1))) fun x84=>
     cond (decide (x78.dev<=x84.dev))
      (M.pure true)
      (cond (decide (16<=x78.slot))
       (M.pure true)
       (cond (decide (x78.try_=0))
        (M.pure true)
        (M.bind (M.idx tries4 x78.slot) fun x89=>
        M.pure (!decide (x89=x78.try_))))))
     (cond (decide (16<=x78.slot))
      (M.pure true)
      (cond (decide (x78.try_=0))
       (M.pure true)
       (M.bind (M.idx tries4 x78.slot) fun x93=>
       M.pure (!decide (x93=x78.try_)))))))) (fun v80=>
  cond v80
   (M.pure (.ret (.done (.ret false))))
   (M.loop (qx i76 l3 x78) 0))) (M.exk (fun _=>
  M.pure (.next (IntKind.i64.wrap (i76+1))))))
  (M.pure (.done (.brk ())))
def Jp(epoch1:Int)(last2:Int)(l3:List TMember)(tries4:List Int):M Bool:=
 M.bind (cond (decide (epoch1=0))
  (M.pure true)
  (cond (decide (281474976710655 < epoch1))
   (M.pure true)
   (M.pure ((!decide ((tries4.length:Int)=16)))))) (fun v5=>
 cond v5
  (M.pure false)
  (M.bind (M.loop (UK l3 last2 tries4) 0) (M.exk (fun _=>
  M.pure true))))
def YSa(a1:List RN)(b2:List RN):Int->M (M.Step Int (M.Ex Unit Bool)):=fun i17=>
 cond ((decide (i17 < (a1.length:Int))))
  (M.bind (M.idx a1 i17) fun x19=>
  M.bind (M.idx b2 i17) fun x21=>
  cond ((!(decide (x19.lo=x21.lo)&&decide (x19.hi=x21.hi))))
   (M.pure (.done (.ret false)))
   (M.pure (.next (IntKind.i64.wrap (i17+1)))))
  (M.pure (.done (.brk ())))
def v9a(a1:List RN)(b2:List RN):M Bool:=
 cond ((!decide ((a1.length:Int)=(b2.length:Int))))
  (M.pure false)
  (M.bind (M.loop (YSa a1 b2) 0) (M.exk (fun _=>
  M.pure true)))
def Ur(a1:List PT)(b2:List PT):Int->M (M.Step Int (M.Ex Unit Bool)):=fun i33=>
 cond ((decide (i33 < (a1.length:Int))))
  (M.bind (M.bind (M.idx a1 i33) fun x36=>
  M.bind (M.idx b2 i33) fun x38=>
  cond (!decide (x36.dev=x38.dev))
   (M.pure true)
   (M.bind (M.idx a1 i33) fun x41=>
   M.bind (M.idx b2 i33) fun x43=>
   M.bind (M.det (v9a x41.runs x43.runs)) fun v45=>
   M.pure (!v45))) (fun v35=>
  cond v35
   (M.pure (.done (.ret false)))
   (M.pure (.next (IntKind.i64.wrap (i33+1))))))
  (M.pure (.done (.brk ())))
def qy(a1:List PT)(b2:List PT):M Bool:=
 cond ((!decide ((a1.length:Int)=(b2.length:Int))))
  (M.pure false)
  (M.bind (M.loop (Ur a1 b2) 0) (M.exk (fun _=>
  M.pure true)))
def ZK(a1:DT)(b2:DT):M Int:=
 cond (((decide (a1.dev=b2.dev)&&decide (a1.n=b2.n))))
  (M.pure 0)
  (M.bind (cond (decide (a1.dev < b2.dev))
   (M.pure true)
   (cond (decide (a1.dev=b2.dev))
    (M.pure (decide (a1.n < b2.n)))
    (M.pure false))) (fun v4=>
  cond v4
   (M.pure (-1))
   (M.pure 1)))
def VI(l1:List DT)(d2:DT):Int×List DT->M (M.Step (Int×List DT) (List DT)):=fun⟨i26,out27⟩=>
 cond ((decide (i26 < (l1.length:Int))))
  (M.bind (M.bind (M.idx l1 i26) fun x30=>
  M.bind (M.det (ZK x30 d2)) fun v32=>
  cond (decide (v32 < 0))
   (M.bind (M.idx l1 i26) fun x35=>
   M.yk ((out27.length+List.length ([x35]))*16<=140737488355328) <|
   M.pure (out27++[x35]))
   (M.pure out27)) (fun out29=>
  M.pure (.next (((IntKind.i64.wrap (i26+1)),out29)))))
  (M.pure (.done out27))
def XE(l1:List DT)(d2:DT):Int×List DT->M (M.Step (Int×List DT) (List DT)):=fun⟨i62,out63⟩=>
 cond ((decide (i62 < (l1.length:Int))))
  (M.bind (M.bind (M.idx l1 i62) fun x66=>
  M.bind (M.det (ZK x66 d2)) fun v68=>
  cond (decide (0 < v68))
   (M.bind (M.idx l1 i62) fun x71=>
   M.yk ((out63.length+List.length ([x71]))*16<=140737488355328) <|
   M.pure (out63++[x71]))
   (M.pure out63)) (fun out65=>
  M.pure (.next (((IntKind.i64.wrap (i62+1)),out65)))))
  (M.pure (.done out63))
def Yt(l1:List DT)(d2:DT):M (List DT):=
 M.bind (M.loop (VI l1 d2) (0,([]:List DT))) (fun out3=>
 M.yk ((out3.length+List.length ([d2]))*16<=140737488355328) <|
 M.bind (M.loop (XE l1 d2) (0,(out3++[d2]))) (fun out39=>
 M.pure out39))
def Xg(a1:List PT):List DT×Int->M (M.Step (List DT×Int) (List DT)):=fun⟨out16,i17⟩=>
 cond ((decide (i17 < (a1.length:Int))))
  (M.bind (M.idx a1 i17) fun x19=>
  M.bind (M.det (Yt out16 (⟨x19.dev,1⟩:DT))) fun v21=>
  M.pure (.next ((v21,(IntKind.i64.wrap (i17+1))))))
  (M.pure (.done out16))
def YC(b2:List PT):List DT×Int->M (M.Step (List DT×Int) (List DT)):=fun⟨out36,i37⟩=>
 cond ((decide (i37 < (b2.length:Int))))
  (M.bind (M.idx b2 i37) fun x39=>
  M.bind (M.det (Yt out36 (⟨x39.dev,1⟩:DT))) fun v41=>
  M.pure (.next ((v41,(IntKind.i64.wrap (i37+1))))))
  (M.pure (.done out36))
def Jq(a1:List PT)(b2:List PT):M (List DT):=
 M.bind (M.loop (Xg a1) (([]:List DT),0)) (fun out3=>
 M.bind (M.loop (YC b2) (out3,0)) (fun out23=>
 M.pure out23))
def qz(x1:RN):M Bool:=
 M.bind (cond (decide (1<=x1.lo))
  (cond (decide (x1.lo<=x1.hi))
   (M.pure (decide (x1.hi<=281474976710655)))
   (M.pure false))
  (M.pure false)) (fun v2=>
 M.pure v2)
def VJ(l1:List RN)(n2:Int):Int->M (M.Step Int (M.Ex Unit Bool)):=fun i30=>
 cond ((decide (i30 < (l1.length:Int))))
  (M.bind (M.bind (M.idx l1 i30) fun x33=>
  M.bind (M.det (qz x33)) fun v35=>
  cond v35
   (M.bind (M.idx l1 i30) fun x38=>
   cond (decide (x38.lo<=n2))
    (M.bind (M.idx l1 i30) fun x41=>
    M.pure (decide (n2<=x41.hi)))
    (M.pure false))
   (M.pure false)) (fun v32=>
  cond v32
   (M.pure (.done (.ret true)))
   (M.pure (.next (IntKind.i64.wrap (i30+1))))))
  (M.pure (.done (.brk ())))
def jf(l1:List RN)(n2:Int):M Bool:=
 M.bind (M.loop (VJ l1 n2) 0) (M.exk (fun _=>
 M.pure false))
def VK(l1:List Int)(n2:Int):Bool×Int×List Int->M (M.Step (Bool×Int×List Int) (Bool×List Int)):=fun⟨done43,i44,out45⟩=>
 cond ((decide (i44 < (l1.length:Int))))
  (M.bind (M.bind (cond (!done43)
   (M.bind (M.idx l1 i44) fun x51=>
   M.pure (decide (n2<=x51)))
   (M.pure false)) (fun v49=>
  M.bind (cond v49
   (M.yk ((out45.length+List.length ([n2]))*8<=140737488355328) <|
   M.pure (true,(out45++[n2])))
   (M.pure (done43,out45))) (fun⟨done53,out54⟩=>
  M.bind (M.idx l1 i44) fun x57=>
  cond (!decide (x57=n2))
   (M.bind (M.idx l1 i44) fun x60=>
   M.yk ((out54.length+List.length ([x60]))*8<=140737488355328) <|
   M.pure (done53,(out54++[x60])))
   (M.pure (done53,out54))))) (fun⟨done47,out48⟩=>
  M.pure (.next ((done47,(IntKind.i64.wrap (i44+1)),out48)))))
  (M.pure (.done (done43,out45)))
def QA(l1:List Int)(n2:Int):M (List Int):=
 M.bind (M.loop (VK l1 n2) (false,0,([]:List Int))) (fun⟨done3,out4⟩=>
 M.bind (cond (!done3)
  (M.yk ((out4.length+List.length ([n2]))*8<=140737488355328) <|
  M.pure (out4++[n2]))
  (M.pure out4)) (fun out63=>
 M.pure out63))
def Zc(a1:List RN)(b2:List RN):List Int×Int->M (M.Step (List Int×Int) (List Int)):=fun⟨out38,i39⟩=>
 cond ((decide (i39 < (((List.length ((([]:List RN)++a1)++b2)):Int)))))
  (M.bind (M.bind (M.idx (((([]:List RN)++a1)++b2)) i39) fun x42=>
  M.bind (M.det (qz x42)) fun v44=>
  cond v44
   (M.bind (M.idx (((([]:List RN)++a1)++b2)) i39) fun x47=>
   M.bind (M.det (QA out38 x47.lo)) fun v49=>
   M.bind (M.idx (((([]:List RN)++a1)++b2)) i39) fun x51=>
   M.bind (M.det (QA v49 (IntKind.u64.wrap (x51.hi+1)))) fun v53=>
   M.pure v53)
   (M.pure out38)) (fun out41=>
  M.pure (.next ((out41,(IntKind.i64.wrap (i39+1)))))))
  (M.pure (.done out38))
def VL(a1:List RN)(b2:List RN):M (List Int):=
 M.yk ((List.length ([]:List RN)+a1.length)*16<=140737488355328) <|
 M.yk ((List.length (([]:List RN)++a1)+b2.length)*16<=140737488355328) <|
 M.bind (M.loop (Zc a1 b2) (([]:List Int),0)) (fun out5=>
 M.pure out5)
def VM(v4:List Int)(a1:List RN)(b2:List RN)(how3:Int):Int×List RN->M (M.Step (Int×List RN) (List RN)):=fun⟨i85,out86⟩=>
 cond ((decide ((IntKind.i64.wrap (i85+1)) < (v4.length:Int))))
  (M.bind (M.bind (M.idx v4 i85) fun x89=>
  M.bind (M.det (jf a1 x89)) fun v91=>
  M.bind (M.idx v4 i85) fun x93=>
  M.bind (M.det (jf b2 x93)) fun v95=>
  M.bind (cond v91
   (M.pure true)
   (M.pure v95)) (fun in97=>
  M.bind (cond (decide (how3=1))
   (M.bind (cond v91
    (M.pure v95)
    (M.pure false)) (fun in101=>
   M.pure in101))
   (M.pure in97)) (fun in99=>
  M.bind (cond (decide (how3=2))
   (M.bind (cond v91
    (M.pure (!v95))
    (M.pure false)) (fun in105=>
   M.pure in105))
   (M.pure in99)) (fun in103=>
  M.bind (cond in103
   (cond ((decide (0<=((IntKind.i64.wrap (((out86.length):Int) - 1))))))
    (M.bind (M.idx out86 ((IntKind.i64.wrap (((out86.length):Int) - 1)))) fun x110=>
    M.bind (M.idx v4 i85) fun x112=>
    M.pure ((decide ((IntKind.u64.wrap (x110.hi+1))=x112))))
    (M.pure false))
   (M.pure false)) (fun v107=>
  cond v107
   (M.bind (M.idx v4 (IntKind.i64.wrap (i85+1))) fun x115=>
   M.bind (M.idx out86 ((IntKind.i64.wrap (((out86.length):Int) - 1)))) fun x117=>
   M.pure ((List.set out86 ((Int.toNat ((IntKind.i64.wrap (((out86.length):Int) - 1))))) ((⟨x117.lo,(IntKind.u64.wrap (x115 - 1))⟩:RN)))))
   (cond in103
    (M.bind (M.idx v4 i85) fun x120=>
    M.bind (M.idx v4 (IntKind.i64.wrap (i85+1))) fun x122=>
    M.yk ((out86.length+List.length ([(⟨x120,(IntKind.u64.wrap (x122 - 1))⟩:RN)]))*16<=140737488355328) <|
    M.pure ((out86++[(⟨x120,(IntKind.u64.wrap (x122 - 1))⟩:RN)])))
    (M.pure out86))))))) (fun out88=>
  M.pure (.next (((IntKind.i64.wrap (i85+1)),out88)))))
  (M.pure (.done out86))
def jg(a1:List RN)(b2:List RN)(how3:Int):M (List RN):=
 M.bind (M.det (VL a1 b2)) fun v4=>
 M.bind (M.loop (VM v4 a1 b2 how3) (0,([]:List RN))) (fun out6=>
 M.pure out6)
def Us(a1:List RN)(b2:List RN):M (List RN):=
 M.bind (M.det (jg a1 b2 0)) fun v3=>
 M.pure v3
def Xh(c1:List PT)(dev2:Int):List RN×Int->M (M.Step (List RN×Int) (List RN)):=fun⟨out28,i29⟩=>
 cond ((decide (i29 < (c1.length:Int))))
  (M.bind (M.bind (M.bind (M.idx c1 i29) fun x33=>
  cond (decide (x33.dev=dev2))
   (M.pure (!decide (dev2=0)))
   (M.pure false)) (fun v32=>
  cond v32
   (M.bind (M.idx c1 i29) fun x37=>
   M.bind (M.det (Us out28 x37.runs)) fun v39=>
   M.pure v39)
   (M.pure out28))) (fun out31=>
  M.pure (.next ((out31,(IntKind.i64.wrap (i29+1)))))))
  (M.pure (.done out28))
def VN(c1:List PT)(dev2:Int):M (List RN):=
 M.bind (M.loop (Xh c1 dev2) (([]:List RN),0)) (fun out3=>
 M.pure out3)
def Jr(a1:List RN)(b2:List RN):M (List RN):=
 M.bind (M.det (jg a1 b2 1)) fun v3=>
 M.pure v3
def Ut(a1:List RN)(b2:List RN):M (List RN):=
 M.bind (M.det (jg a1 b2 2)) fun v3=>
 M.pure v3
def VO(v4:List DT)(a1:List PT)(b2:List PT)(how3:Int):Int×List PT->M (M.Step (Int×List PT) (List PT)):=fun⟨i57,out58⟩=>
 cond ((decide (i57 < (v4.length:Int))))
  (M.bind (M.bind (M.idx v4 i57) fun x61=>
  M.bind (M.det (VN a1 x61.dev)) fun v63=>
  M.bind (M.idx v4 i57) fun x65=>
  M.bind (M.det (VN b2 x65.dev)) fun v67=>
  M.bind (M.det (Us v63 v67)) fun v69=>
  M.bind (cond (decide (how3=1))
   (M.bind (M.det (Jr v63 v67)) fun v73=>
   M.pure v73)
   (M.pure v69)) (fun z71=>
  M.bind (cond (decide (how3=2))
   (M.bind (M.det (Ut v63 v67)) fun v77=>
   M.pure v77)
   (M.pure z71)) (fun z75=>
  cond ((decide (0 < (z75.length:Int))))
   (M.bind (M.idx v4 i57) fun x80=>
   M.yk ((out58.length+List.length ([(⟨x80.dev,z75⟩:PT)]))*32<=140737488355328) <|
   M.pure (out58++[(⟨x80.dev,z75⟩:PT)]))
   (M.pure out58)))) (fun out60=>
  M.pure (.next (((IntKind.i64.wrap (i57+1)),out60)))))
  (M.pure (.done out58))
def yDa(a1:List PT)(b2:List PT)(how3:Int):M (List PT):=
 M.bind (M.det (Jq a1 b2)) fun v4=>
 M.bind (M.loop (VO v4 a1 b2 how3) (0,([]:List PT))) (fun out6=>
 M.pure out6)
def Uu(c1:List PT):M (List PT):=
 M.bind (M.det (yDa c1 ([]:List PT) 0)) fun v2=>
 M.pure v2
def VP(c1:List PT):M Bool:=
 M.bind (M.det (Uu c1)) fun v2=>
 M.bind (M.det (qy c1 v2)) fun v4=>
 M.pure v4
def uq(d1:DT):M Bool:=
 M.bind (cond (decide (1<=d1.dev))
  (cond (decide (1<=d1.n))
   (M.pure (decide (d1.n < 281474976710656)))
   (M.pure false))
  (M.pure false)) (fun v2=>
 M.pure v2)
def Uv(v1:Int):M (Int×Int):=
 M.pure (((IntKind.u16.wrap (IntKind.u64.wrap (Int.tdiv v1 281474976710656))),(Int.tmod v1 281474976710656)))
def VQ(v1:Int):M (DT×Bool):=
 M.bind (M.det (Uv v1)) fun v2=>
 M.bind (M.det (uq (⟨v2.1,v2.2⟩:DT))) fun v4=>
 cond (!v4)
  (M.pure ((⟨0,0⟩:DT),false))
  (M.pure ((⟨v2.1,v2.2⟩:DT),true))
def Js(f1:Int):M Bool:=
 M.bind (cond (decide (1<=f1))
  (M.pure (decide (f1<=5)))
  (M.pure false)) (fun v2=>
 M.pure v2)
def YD(s1:ByteArray):Int->M (M.Step Int (M.Ex Unit Bool)):=fun i19=>
 cond ((decide (i19 < (ByteArray.size s1:Int))))
  (M.bind (M.bind (M.idx (xW s1) i19) fun b22=>
  cond (decide (b22 < 32))
   (M.pure true)
   (M.bind (M.idx (xW s1) i19) fun b25=>
   M.pure (decide (126 < b25)))) (fun v21=>
  cond v21
   (M.pure (.done (.ret false)))
   (M.pure (.next (IntKind.i64.wrap (i19+1))))))
  (M.pure (.done (.brk ())))
def Jt(s1:ByteArray):M Bool:=
 M.bind (M.loop (YD s1) 0) (M.exk (fun _=>
 M.pure ((decide ((ByteArray.size s1:Int)<=60)))))
def vf(l1:List DT):Int->M (M.Step Int (M.Ex Unit Bool)):=fun i19=>
 cond ((decide (i19 < (l1.length:Int))))
  (M.bind (M.idx l1 (IntKind.i64.wrap (i19 - 1))) fun x21=>
  M.bind (M.idx l1 i19) fun x23=>
  M.bind (M.det (ZK x21 x23)) fun v25=>
  cond (decide (0<=v25))
   (M.pure (.done (.ret false)))
   (M.pure (.next (IntKind.i64.wrap (i19+1)))))
  (M.pure (.done (.brk ())))
def VR(l1:List DT):M Bool:=
 M.bind (M.loop (vf l1) 1) (M.exk (fun _=>
 M.pure true))
def VS(l1:List DT)(d2:DT):Int->M (M.Step Int (M.Ex Unit Bool)):=fun i12=>
 cond ((decide (i12 < (l1.length:Int))))
  (M.bind (M.idx l1 i12) fun x14=>
  cond (((decide (x14.dev=d2.dev)&&decide (x14.n=d2.n))))
   (M.pure (.done (.ret true)))
   (M.pure (.next (IntKind.i64.wrap (i12+1)))))
  (M.pure (.done (.brk ())))
def QB(l1:List DT)(d2:DT):M Bool:=
 M.bind (M.loop (VS l1 d2) 0) (M.exk (fun _=>
 M.pure false))
def YE(e1:EV):Int->M (M.Step Int (M.Ex Unit Bool)):=fun i37=>
 cond ((decide (i37 < (e1.kills.length:Int))))
  (M.bind (M.idx e1.kills i37) fun x39=>
  M.bind (M.det (uq x39)) fun v41=>
  cond (!v41)
   (M.pure (.done (.ret false)))
   (M.pure (.next (IntKind.i64.wrap (i37+1)))))
  (M.pure (.done (.brk ())))
def VT(e1:EV):M Bool:=
 M.bind (M.det (VQ e1.cid)) fun v2=>
 M.bind (cond (!v2.2)
  (M.pure true)
  (M.bind (M.det (uq e1.dot)) fun v6=>
  cond (!v6)
   (M.pure true)
   (cond (!decide (e1.kind=1))
    (M.pure (!decide (e1.kind=2)))
    (M.pure false)))) (fun v4=>
 cond v4
  (M.pure false)
  (M.bind (cond (decide (e1.kind=1))
   (M.bind (M.det (Js e1.field)) fun v13=>
   cond (!v13)
    (M.pure true)
    (M.bind (M.det (Jt e1.text)) fun v16=>
    cond (!v16)
     (M.pure true)
     (cond (decide (e1.kind=2))
      (cond (!decide (e1.field=0))
       (M.pure true)
       (M.pure ((!decide (e1.text=(⟨#[]⟩:ByteArray))))))
      (M.pure false))))
   (cond (decide (e1.kind=2))
    (cond (!decide (e1.field=0))
     (M.pure true)
     (M.pure ((!decide (e1.text=(⟨#[]⟩:ByteArray))))))
    (M.pure false))) (fun v11=>
  cond v11
   (M.pure false)
   (M.bind (M.loop (YE e1) 0) (M.exk (fun _=>
   M.bind (cond ((decide ((e1.kills.length:Int)<=256)))
    (M.bind (M.det (VR e1.kills)) fun v46=>
    cond v46
     (M.bind (M.det (QB e1.kills e1.dot)) fun v49=>
     M.pure (!v49))
     (M.pure false))
    (M.pure false)) (fun v44=>
   M.pure v44)))))))
def Xi(l1:List EV)(d2:DT):Int->M (M.Step Int (M.Ex Unit Bool)):=fun i_16=>
 cond ((decide (i_16 < (l1.length:Int))))
  (M.bind (M.idx l1 i_16) fun x18=>
  M.bind (M.det (QB x18.kills d2)) fun v20=>
  cond v20
   (M.pure (.done (.ret true)))
   (M.pure (.next (IntKind.i64.wrap (i_16+1)))))
  (M.pure (.done (.brk ())))
def Uw(l1:List EV)(d2:DT):M Bool:=
 M.bind (M.loop (Xi l1 d2) 0) (M.exk (fun _=>
 M.pure false))
def yEa(c1:List PT)(d2:DT):M Bool:=
 M.bind (M.bind (M.det (uq d2)) fun v4=>
 cond v4
  (M.bind (M.det (VN c1 d2.dev)) fun v7=>
  M.bind (M.det (jf v7 d2.n)) fun v9=>
  M.pure v9)
  (M.pure false)) (fun v3=>
 M.pure v3)
def Xj(l1:List DT)(c2:List PT):List DT×Int->M (M.Step (List DT×Int) (List DT)):=fun⟨out28,i29⟩=>
 cond ((decide (i29 < (l1.length:Int))))
  (M.bind (M.bind (M.idx l1 i29) fun x32=>
  M.bind (M.det (yEa c2 x32)) fun v34=>
  cond (!v34)
   (M.bind (M.idx l1 i29) fun x37=>
   M.bind (M.det (Yt out28 x37)) fun v39=>
   M.pure v39)
   (M.pure out28)) (fun out31=>
  M.pure (.next ((out31,(IntKind.i64.wrap (i29+1)))))))
  (M.pure (.done out28))
def Ju(l1:List DT)(c2:List PT):M (List DT):=
 M.bind (M.loop (Xj l1 c2) (([]:List DT),0)) (fun out3=>
 M.pure out3)
def YF(l1:List EV)(i80:Int):List DT×Int->M (M.Step (List DT×Int) (List DT)):=fun⟨out107,k108⟩=>
 M.bind (M.idx l1 i80) fun x109=>
 cond ((decide (k108 < (x109.kills.length:Int))))
  (M.bind (M.idx l1 i80) fun x112=>
  M.bind (M.idx x112.kills k108) fun x114=>
  M.bind (M.det (Yt out107 x114)) fun v116=>
  M.pure (.next ((v116,(IntKind.i64.wrap (k108+1))))))
  (M.pure (.done out107))
def Xk(l1:List EV):List DT×Int->M (M.Step (List DT×Int) (List DT)):=fun⟨out79,i80⟩=>
 cond ((decide (i80 < (l1.length:Int))))
  (M.bind (M.bind (M.idx l1 i80) fun x83=>
  M.bind (M.det (Yt out79 x83.dot)) fun v85=>
  M.loop (YF l1 i80) (v85,0)) (fun out82=>
  M.pure (.next ((out82,(IntKind.i64.wrap (i80+1)))))))
  (M.pure (.done out79))
def Jv(l1:List EV):M (List DT):=
 M.bind (M.loop (Xk l1) (([]:List DT),0)) (fun out2=>
 M.pure out2)
def Xl(l2:List EV):Int->M (M.Step Int (M.Ex Unit Bool)):=fun i_64=>
 cond ((decide (i_64 < (l2.length:Int))))
  (M.bind (M.bind (M.idx l2 i_64) fun x67=>
  M.bind (M.det (VT x67)) fun v69=>
  cond (!v69)
   (M.pure true)
   (cond (decide (0 < i_64))
    (M.bind (M.idx l2 (IntKind.i64.wrap (i_64 - 1))) fun x73=>
    M.bind (M.idx l2 i_64) fun x75=>
    M.bind (M.det (ZK x73.dot x75.dot)) fun v77=>
    cond (decide (0<=v77))
     (M.pure true)
     (M.bind (M.idx l2 i_64) fun x80=>
     cond (decide (x80.kind=1))
      (M.bind (M.idx l2 i_64) fun x83=>
      M.bind (M.det (Uw l2 x83.dot)) fun v85=>
      M.pure v85)
      (M.pure false)))
    (M.bind (M.idx l2 i_64) fun x87=>
    cond (decide (x87.kind=1))
     (M.bind (M.idx l2 i_64) fun x90=>
     M.bind (M.det (Uw l2 x90.dot)) fun v92=>
     M.pure v92)
     (M.pure false)))) (fun v66=>
  cond v66
   (M.pure (.done (.ret false)))
   (M.pure (.next (IntKind.i64.wrap (i_64+1))))))
  (M.pure (.done (.brk ())))
def Jw(c1:List PT)(l2:List EV):M Bool:=
 M.bind (M.loop (Xl l2) 0) (M.exk (fun _=>
 M.bind (M.bind (M.det (VP c1)) fun v96=>
 cond v96
  (M.bind (M.det (Jv l2)) fun v99=>
  M.bind (M.det (Ju v99 c1)) fun v101=>
  M.pure ((decide ((v101.length:Int)=0))))
  (M.pure false)) (fun v95=>
 M.pure v95)))
def UL(s1:THubState):Int×A16->M (M.Step (Int×A16) A16):=fun⟨i21,ar22⟩=>
 cond (decide (i21 < 16))
  (M.bind (M.idx s1.tries i21) fun x24=>
  M.yk ((0:Int)<=i21/\i21 < ((16:Nat):Int)) <|
  M.pure (.next (((IntKind.i64.wrap (i21+1)),(AR.set ar22 (Int.toNat i21) x24)))))
  (M.pure (.done ar22))
def UM(s1:THubState):Int×List R25Row->M (M.Step (Int×List R25Row) (M.Ex (List R25Row) (R33Center×Bool))):=fun⟨i66,c67⟩=>
 cond ((decide (i66 < (s1.rows.length:Int))))
  (M.bind (M.bind (M.idx s1.rows i66) fun x70=>
  M.bind (M.idx s1.members i66) fun x72=>
  cond (!decide (x70.who=x72.dev))
   (M.pure true)
   (M.bind (M.idx s1.rows i66) fun x75=>
   M.bind (M.det (VP x75.have_)) fun v77=>
   M.pure (!v77))) (fun v69=>
  cond v69
   (M.pure (.done ((.ret ((((⟨(⟨0,0,([]:List TMember),(0,0,0,0,0,0,0,0,0,0,0,0,0,0,0,0)⟩:R26Roster),([]:List R25Row),(⟨([]:List PT),([]:List EV)⟩:RB)⟩:R33Center),false)))))))
   (M.yk ((List.length ([]:List R25Row)+c67.length)*32<=140737488355328) <|
   M.bind (M.idx s1.rows i66) fun x81=>
   M.bind (M.idx s1.rows i66) fun x83=>
   M.yk ((List.length (([]:List R25Row)++c67)+List.length ([(⟨x81.who,x83.have_⟩:R25Row)]))*32<=140737488355328) <|
   M.pure (.next (((IntKind.i64.wrap (i66+1)),((([]:List R25Row)++c67)++[(⟨x81.who,x83.have_⟩:R25Row)])))))))
  (M.pure (.done (.brk c67)))
def VU(s1:THubState):M (R33Center×Bool):=
 M.bind (M.bind (M.det (Jp s1.epoch s1.last s1.members s1.tries)) fun v3=>
 cond (!v3)
  (M.pure true)
  (M.bind (M.det (Jw s1.ctx s1.all)) fun v6=>
  cond (!v6)
   (M.pure true)
   (M.pure ((!decide ((s1.rows.length:Int)=(s1.members.length:Int))))))) (fun v2=>
 cond v2
  (M.pure (((⟨(⟨0,0,([]:List TMember),(0,0,0,0,0,0,0,0,0,0,0,0,0,0,0,0)⟩:R26Roster),([]:List R25Row),(⟨([]:List PT),([]:List EV)⟩:RB)⟩:R33Center),false)))
  (M.bind (M.loop (UL s1) (0,(0,0,0,0,0,0,0,0,0,0,0,0,0,0,0,0))) (fun ar10=>
  M.bind (M.loop (UM s1) (0,([]:List R25Row))) (M.exk (fun c27=>
  M.pure (((⟨(⟨s1.epoch,s1.last,s1.members,ar10⟩:R26Roster),c27,(⟨s1.ctx,s1.all⟩:RB)⟩:R33Center),true)))))))
def VV :Int×Int->M (M.Step (Int×Int) Int):=fun⟨v7,n8⟩=>
 cond (decide (0 < v7))
  (M.pure (.next (((IntKind.u64.wrap (Int.tdiv v7 256)),(IntKind.i64.wrap (n8+1))))))
  (M.pure (.done n8))
def wpa(v1:Int):M Int:=
 M.bind (M.loop VV (v1,0)) (fun n2=>
 M.pure n2)
def ub(i2:Int):Int×Int->M (M.Step (Int×Int) Int):=fun⟨v11,k12⟩=>
 cond (decide (k12 < i2))
  (M.pure (.next (((IntKind.u64.wrap (Int.tdiv v11 256)),(IntKind.i64.wrap (k12+1))))))
  (M.pure (.done v11))
def yFa(v1:Int)(i2:Int):M Int:=
 M.bind (cond (decide (i2 < 0))
  (M.pure true)
  (M.pure (decide (7 < i2)))) (fun v3=>
 cond v3
  (M.pure 0)
  (M.bind (M.loop (ub i2) (v1,0)) (fun v6=>
  M.pure (IntKind.u8.wrap (Int.tmod v6 256)))))
def Zd(v2:Int):Int×List Int->M (M.Step (Int×List Int) (List Int)):=fun⟨i18,v19⟩=>
 cond (decide (0<=i18))
  (M.bind (M.det (yFa v2 i18)) fun v21=>
  M.yk ((v19.length+List.length ([v21]))*1<=140737488355328) <|
  M.pure (.next (((IntKind.i64.wrap (i18 - 1)),(v19++[v21])))))
  (M.pure (.done v19))
def yX(b1:List Int)(v2:Int):M (List Int):=
 M.yk ((List.length ([]:List Int)+b1.length)*1<=140737488355328) <|
 M.bind (M.det (wpa v2)) fun v4=>
 M.yk ((List.length (([]:List Int)++b1)+List.length ([(IntKind.u8.wrap v4)]))*1<=140737488355328) <|
 M.bind (M.loop (Zd v2) (((IntKind.i64.wrap (v4 - 1)),((([]:List Int)++b1)++[(IntKind.u8.wrap v4)])))) (fun v7=>
 M.pure v7)
def Ze(v3:List PT)(i129:Int):List Int×Int->M (M.Step (List Int×Int) (List Int)):=fun⟨out172,k173⟩=>
 M.bind (M.idx v3 i129) fun x174=>
 cond ((decide (k173 < (x174.runs.length:Int))))
  (M.bind (M.idx v3 i129) fun x177=>
  M.bind (M.idx x177.runs k173) fun x179=>
  M.bind (M.det (yX out172 x179.lo)) fun v181=>
  M.bind (M.idx v3 i129) fun x183=>
  M.bind (M.idx x183.runs k173) fun x185=>
  M.bind (M.det (yX v181 x185.hi)) fun v187=>
  M.pure (.next ((v187,(IntKind.i64.wrap (k173+1))))))
  (M.pure (.done out172))
def Zf(v3:List PT):List Int×Int->M (M.Step (List Int×Int) (List Int)):=fun⟨out128,i129⟩=>
 cond ((decide (i129 < ((v3.length):Int))))
  (M.bind (M.bind (M.idx v3 i129) fun x132=>
  M.bind (M.det (yX out128 (IntKind.u64.wrap x132.dev))) fun v134=>
  M.bind (M.idx v3 i129) fun x136=>
  M.bind (M.det (yX v134 (IntKind.u64.wrap (x136.runs.length:Int)))) fun v138=>
  M.loop (Ze v3 i129) (v138,0)) (fun out131=>
  M.pure (.next ((out131,(IntKind.i64.wrap (i129+1)))))))
  (M.pure (.done out128))
def XF(b1:List Int)(c2:List PT):M (List Int):=
 M.bind (M.det (Uu c2)) fun v3=>
 M.bind (M.det (yX b1 ((IntKind.u64.wrap ((v3.length):Int))))) fun v5=>
 M.bind (M.loop (Zf v3) (v5,0)) (fun out7=>
 M.pure out7)
def VW(b1:List Int)(d2:DT):M (List Int):=
 M.bind (M.det (yX b1 (IntKind.u64.wrap d2.dev))) fun v3=>
 M.bind (M.det (yX v3 d2.n)) fun v5=>
 M.pure v5
def Xm(s2:ByteArray):Int×List Int->M (M.Step (Int×List Int) (List Int)):=fun⟨i_16,v17⟩=>
 cond ((decide (i_16 < (ByteArray.size s2:Int))))
  (M.bind (M.idx (xW s2) i_16) fun b19=>
  M.yk ((v17.length+List.length ([b19]))*1<=140737488355328) <|
  M.pure (.next (((IntKind.i64.wrap (i_16+1)),(v17++[b19])))))
  (M.pure (.done v17))
def yGa(b1:List Int)(s2:ByteArray):M (List Int):=
 M.bind (M.det (yX b1 (IntKind.u64.wrap (ByteArray.size s2:Int)))) fun v3=>
 M.bind (M.loop (Xm s2) (0,v3)) (fun v5=>
 M.pure v5)
def vw(l2:List DT):List DT×Int->M (M.Step (List DT×Int) (List DT)):=fun⟨some28,i29⟩=>
 cond ((decide (i29 < (l2.length:Int))))
  (M.bind (M.bind (M.idx l2 i29) fun x32=>
  M.bind (M.det (uq x32)) fun v34=>
  cond v34
   (M.bind (M.idx l2 i29) fun x37=>
   M.bind (M.det (Yt some28 x37)) fun v39=>
   M.pure v39)
   (M.pure some28)) (fun some31=>
  M.pure (.next ((some31,(IntKind.i64.wrap (i29+1)))))))
  (M.pure (.done some28))
def ur(some3:List DT):List Int×Int->M (M.Step (List Int×Int) (List Int)):=fun⟨out56,i57⟩=>
 cond ((decide (i57 < (some3.length:Int))))
  (M.bind (M.idx some3 i57) fun x59=>
  M.bind (M.det (VW out56 x59)) fun v61=>
  M.pure (.next ((v61,(IntKind.i64.wrap (i57+1))))))
  (M.pure (.done out56))
def UN(b1:List Int)(l2:List DT):M (List Int):=
 M.bind (M.loop (vw l2) (([]:List DT),0)) (fun some3=>
 M.bind (M.det (yX b1 (IntKind.u64.wrap (some3.length:Int)))) fun v41=>
 M.bind (M.loop (ur some3) (v41,0)) (fun out43=>
 M.pure out43))
def wqa(b1:List Int)(e2:EV):M (List Int):=
 M.bind (M.det (VW b1 e2.dot)) fun v3=>
 M.yk ((v3.length+List.length ([e2.kind]))*1<=140737488355328) <|
 M.bind (M.det (yX (v3++[e2.kind]) e2.cid)) fun v6=>
 M.yk ((v6.length+List.length ([e2.field]))*1<=140737488355328) <|
 M.bind (M.det (yGa (v6++[e2.field]) e2.text)) fun v9=>
 M.bind (M.det (UN v9 e2.kills)) fun v11=>
 M.pure v11
def Zg(l2:List EV):List Int×Int->M (M.Step (List Int×Int) (List Int)):=fun⟨out18,i19⟩=>
 cond ((decide (i19 < (l2.length:Int))))
  (M.bind (M.idx l2 i19) fun x21=>
  M.bind (M.det (wqa out18 x21)) fun v23=>
  M.pure (.next ((v23,(IntKind.i64.wrap (i19+1))))))
  (M.pure (.done out18))
def jh(b1:List Int)(l2:List EV):M (List Int):=
 M.bind (M.det (yX b1 (IntKind.u64.wrap (l2.length:Int)))) fun v3=>
 M.bind (M.loop (Zg l2) (v3,0)) (fun out5=>
 M.pure out5)
def ji(s1:THubState):List Int×Int->M (M.Step (List Int×Int) (List Int)):=fun⟨b40,i41⟩=>
 cond ((decide (i41 < (s1.members.length:Int))))
  (M.bind (M.idx s1.members i41) fun x43=>
  M.bind (M.det (yX b40 (IntKind.u64.wrap x43.dev))) fun v45=>
  M.bind (M.idx s1.members i41) fun x47=>
  M.yk ((v45.length+List.length ([x47.slot]))*1<=140737488355328) <|
  M.bind (M.idx s1.members i41) fun x50=>
  M.bind (M.det (yX (v45++[x47.slot]) x50.try_)) fun v52=>
  M.pure (.next ((v52,(IntKind.i64.wrap (i41+1))))))
  (M.pure (.done b40))
def jk(s1:THubState):List Int×Int->M (M.Step (List Int×Int) (List Int)):=fun⟨b67,i68⟩=>
 cond ((decide (i68 < (s1.tries.length:Int))))
  (M.bind (M.idx s1.tries i68) fun x70=>
  M.bind (M.det (yX b67 x70)) fun v72=>
  M.pure (.next ((v72,(IntKind.i64.wrap (i68+1))))))
  (M.pure (.done b67))
def jl(s1:THubState):List Int×Int->M (M.Step (List Int×Int) (List Int)):=fun⟨b87,i88⟩=>
 cond ((decide (i88 < (s1.rows.length:Int))))
  (M.bind (M.idx s1.rows i88) fun x90=>
  M.bind (M.det (XF b87 x90.have_)) fun v92=>
  M.pure (.next ((v92,(IntKind.i64.wrap (i88+1))))))
  (M.pure (.done b87))
def YTa(s1:THubState):M (List Int×Int):=
 M.bind (M.det (VU s1)) fun v2=>
 M.bind (cond (!v2.2)
  (M.pure true)
  (M.pure ((decide (4096 < (s1.all.length:Int)))))) (fun v4=>
 cond v4
  (M.pure (([]:List Int),1))
  (M.bind (M.det (yX ([]:List Int) s1.epoch)) fun v7=>
  M.bind (M.det (yX v7 (IntKind.u64.wrap s1.last))) fun v9=>
  M.bind (M.det (yX v9 (IntKind.u64.wrap (s1.members.length:Int)))) fun v11=>
  M.bind (M.loop (ji s1) (v11,0)) (fun b13=>
  M.bind (M.loop (jk s1) (b13,0)) (fun b54=>
  M.bind (M.loop (jl s1) (b54,0)) (fun b74=>
  M.bind (M.det (XF b74 s1.ctx)) fun v94=>
  M.bind (M.det (jh v94 s1.all)) fun v96=>
  M.pure (v96,0))))))
def YG(x7:Int)(at2:Int)(b1:List Int):Int×Int->M (M.Step (Int×Int) Int):=fun⟨v28,v29⟩=>
 cond ((decide (v29 < ((List.length ((List.drop (Int.toNat 0) (List.take (Int.toNat (IntKind.i64.wrap x7)) ((List.drop (Int.toNat (IntKind.i64.wrap (at2+1))) (List.take (Int.toNat (b1.length:Int)) b1)))))):Int)))))
  (M.bind (M.idx ((List.drop (Int.toNat 0) (List.take (Int.toNat (IntKind.i64.wrap x7)) ((List.drop (Int.toNat (IntKind.i64.wrap (at2+1))) (List.take (Int.toNat (b1.length:Int)) b1)))))) v29) fun x31=>
  M.pure (.next (((bOr .u64 (IntKind.u64.wrap (v28*2 ^ 8)) (IntKind.u64.wrap x31)),(IntKind.i64.wrap (v29+1))))))
  (M.pure (.done v28))
def Jx(b1:List Int)(at2:Int):M (Int×Int×Int):=
 M.bind (cond (decide (at2 < 0))
  (M.pure true)
  (M.pure ((decide ((b1.length:Int) < at2))))) (fun v3=>
 cond v3
  (M.pure (0,0,1))
  (cond ((decide (at2=(b1.length:Int))))
   (M.pure (0,0,2))
   (M.bind (M.idx b1 at2) fun x7=>
   M.yk ((0:Int)<=(IntKind.i64.wrap (at2+1))/\((IntKind.i64.wrap (at2+1)):Int)<=(b1.length:Int)/\(b1.length:Int)<=(b1.length:Int)) <|
   M.bind (cond ((decide (8 < (IntKind.i64.wrap x7))))
    (M.pure true)
    (cond ((decide (0 < (IntKind.i64.wrap x7))))
     (cond ((decide (0 < ((List.length ((List.drop (Int.toNat (IntKind.i64.wrap (at2+1))) (List.take (Int.toNat (b1.length:Int)) b1))):Int)))))
      (M.bind (M.idx ((List.drop (Int.toNat (IntKind.i64.wrap (at2+1))) (List.take (Int.toNat (b1.length:Int)) b1))) 0) fun x14=>
      M.pure (decide (x14=0)))
      (M.pure false))
     (M.pure false))) (fun v10=>
   cond v10
    (M.pure (0,0,4))
    (cond ((decide (((List.length ((List.drop (Int.toNat (IntKind.i64.wrap (at2+1))) (List.take (Int.toNat (b1.length:Int)) b1))):Int)) < (IntKind.i64.wrap x7))))
     (M.pure (0,0,2))
     (M.yk ((0:Int)<=0/\(0:Int)<=(IntKind.i64.wrap x7)/\(IntKind.i64.wrap x7)<=(List.length ((List.drop (Int.toNat (IntKind.i64.wrap (at2+1))) (List.take (Int.toNat (b1.length:Int)) b1))):Int)) <|
     M.bind (M.loop (YG x7 at2 b1) (0,0)) (fun v19=>
     M.pure ((v19,(IntKind.i64.wrap ((IntKind.i64.wrap (at2+1))+(IntKind.i64.wrap x7))),0)))))))))
def VX(b1:List Int):M (List Int×Int):=
 M.yk (b1.length*1<=140737488355328) <|
 M.pure (b1,0)
def zm(b_1:List Int)(bad_2:Int):M (Int×List Int×Int):=
 M.pure (bad_2,b_1,bad_2)
def zX(e1:Int)(b_2:List Int)(bad_3:Int):M (List Int×Int):=
 M.bind (cond (decide (bad_3=0))
  (M.pure (!decide (e1=0)))
  (M.pure false)) (fun v4=>
 cond v4
  (M.pure (([]:List Int),e1))
  (M.pure (b_2,bad_3)))
def xl(n1:Int)(b_2:List Int)(bad_3:Int):M (List Int×List Int×Int):=
 M.yk ((0:Int)<=0/\(0:Int)<=n1/\n1<=(b_2.length:Int)) <|
 M.yk ((0:Int)<=n1/\(n1:Int)<=(b_2.length:Int)/\(b_2.length:Int)<=(b_2.length:Int)) <|
 M.pure (((List.drop (Int.toNat 0) (List.take (Int.toNat n1) b_2)),(List.drop (Int.toNat n1) (List.take (Int.toNat (b_2.length:Int)) b_2)),bad_3))
def zc(b_1:List Int)(bad_2:Int):M (Int×List Int×Int):=
 M.bind (M.det (zm b_1 bad_2)) fun y3=>
 cond (!decide (y3.1=0))
  (M.pure (0,y3.2.1,y3.2.2))
  (M.bind (M.det (Jx y3.2.1 0)) fun v6=>
  cond (!decide (v6.2.2=0))
   (M.bind (M.det (zX v6.2.2 y3.2.1 y3.2.2)) fun y9=>
   M.pure (0,y9.1,y9.2))
   (M.bind (M.det (xl v6.2.1 y3.2.1 y3.2.2)) fun y11=>
   M.pure (v6.1,y11.2.1,y11.2.2)))
def yQ(most1:Int)(b_2:List Int)(bad_3:Int):M (Int×List Int×Int):=
 M.bind (M.det (zc b_2 bad_3)) fun y4=>
 cond (decide (most1 < y4.1))
  (M.bind (M.det (zX 4 y4.2.1 y4.2.2)) fun y7=>
  M.pure (0,y7.1,y7.2))
  (M.pure (y4.1,y4.2.1,y4.2.2))
def ZL(b_1:List Int)(bad_2:Int):M (Int×List Int×Int):=
 M.pure ((b_1.length:Int),b_1,bad_2)
def xI(b_1:List Int)(bad_2:Int):M (Int×List Int×Int):=
 M.bind (M.det (ZL b_1 bad_2)) fun y3=>
 M.pure (y3.1,y3.2.1,y3.2.2)
def yR(b_1:List Int)(bad_2:Int):M (Int×List Int×Int):=
 M.bind (M.det (zm b_1 bad_2)) fun y3=>
 cond (!decide (y3.1=0))
  (M.pure (0,y3.2.1,y3.2.2))
  (M.bind (M.det (xI y3.2.1 y3.2.2)) fun y6=>
  cond (decide (y6.1=0))
   (M.bind (M.det (zX 2 y6.2.1 y6.2.2)) fun y9=>
   M.pure (0,y9.1,y9.2))
   (M.bind (M.det (xl 1 y6.2.1 y6.2.2)) fun y11=>
   M.bind (M.idx y11.1 0) fun x13=>
   M.pure (x13,y11.2.1,y11.2.2)))
def Yl(y3:Int×List Int×Int):Int×List TMember×List Int×Int->M (M.Step (Int×List TMember×List Int×Int) (List TMember×List Int×Int)):=fun⟨v31,out32,v33,v34⟩=>
 cond (decide (v31 < y3.1))
  (M.bind (M.det (yQ 65535 v33 v34)) fun y36=>
  M.bind (M.det (yR y36.2.1 y36.2.2)) fun y38=>
  M.bind (M.det (zc y38.2.1 y38.2.2)) fun y40=>
  M.yk ((out32.length+List.length ([(⟨(IntKind.u16.wrap y36.1),y38.1,y40.1⟩:TMember)]))*16<=140737488355328) <|
  M.pure (.next (((IntKind.u64.wrap (v31+1)),(out32++[(⟨(IntKind.u16.wrap y36.1),y38.1,y40.1⟩:TMember)]),y40.2.1,y40.2.2))))
  (M.pure (.done (out32,v33,v34)))
def vU(b_1:List Int)(bad_2:Int):M (List TMember×List Int×Int):=
 M.bind (M.det (zc b_1 bad_2)) fun y3=>
 cond (decide (16 < y3.1))
  (M.bind (M.det (zX 3 y3.2.1 y3.2.2)) fun y6=>
  M.pure (([]:List TMember),y6.1,y6.2))
  (M.bind (M.loop (Yl y3) (0,([]:List TMember),y3.2.1,y3.2.2)) (fun⟨out8,v9,v10⟩=>
  M.pure (out8,v9,v10)))
def wg(y5:Int×List Int×Int):Int×List RN×List Int×Int->M (M.Step (Int×List RN×List Int×Int) (List RN×List Int×Int)):=fun⟨v32,v33,v34,v35⟩=>
 cond (decide (v32 < y5.1))
  (M.bind (M.det (zc v34 v35)) fun y37=>
  M.bind (M.det (zc y37.2.1 y37.2.2)) fun y39=>
  M.yk ((v33.length+List.length ([(⟨y37.1,y39.1⟩:RN)]))*16<=140737488355328) <|
  M.bind (M.det (zm y39.2.1 y39.2.2)) fun y42=>
  cond (!decide (y42.1=0))
   (M.pure (.done ((((v33++[(⟨y37.1,y39.1⟩:RN)]),y42.2.1,y42.2.2)))))
   (M.pure (.next (((IntKind.u64.wrap (v32+1)),(v33++[(⟨y37.1,y39.1⟩:RN)]),y42.2.1,y42.2.2)))))
  (M.pure (.done (v33,v34,v35)))
def Ym(b_1:List Int)(bad_2:Int):M (PT×List Int×Int):=
 M.bind (M.det (yQ 65535 b_1 bad_2)) fun y3=>
 M.bind (M.det (zc y3.2.1 y3.2.2)) fun y5=>
 M.bind (M.loop (wg y5) (0,([]:List RN),y5.2.1,y5.2.2)) (fun⟨v7,v8,v9⟩=>
 M.pure (((⟨(IntKind.u16.wrap y3.1),v7⟩:PT),v8,v9)))
def vH(y3:Int×List Int×Int):Int×List PT×List Int×Int->M (M.Step (Int×List PT×List Int×Int) (M.Ex (List PT×List Int×Int) (List PT×List Int×Int))):=fun⟨v26,c27,v28,v29⟩=>
 cond (decide (v26 < y3.1))
  (M.bind (M.det (Ym v28 v29)) fun y31=>
  M.yk ((c27.length+List.length ([y31.1]))*32<=140737488355328) <|
  M.bind (M.det (zm y31.2.1 y31.2.2)) fun y34=>
  cond (!decide (y34.1=0))
   (M.pure (.done ((.ret (([]:List PT),y34.2.1,y34.2.2)))))
   (M.pure (.next (((IntKind.u64.wrap (v26+1)),(c27++[y31.1]),y34.2.1,y34.2.2)))))
  (M.pure (.done (.brk (c27,v28,v29))))
def uc(b_1:List Int)(bad_2:Int):M (List PT×List Int×Int):=
 M.bind (M.det (zc b_1 bad_2)) fun y3=>
 M.bind (M.loop (vH y3) (0,([]:List PT),y3.2.1,y3.2.2)) (M.exk (fun⟨c5,v6,v7⟩=>
 M.bind (M.det (ZX c5)) fun v37=>
 cond (!v37)
  (M.bind (M.det (zX 4 v6 v7)) fun y40=>
  M.pure (([]:List PT),y40.1,y40.2))
  (M.pure (c5,v6,v7))))
def ud(b_1:List Int)(bad_2:Int):M (DT×List Int×Int):=
 M.bind (M.det (yQ 65535 b_1 bad_2)) fun y3=>
 M.bind (M.det (zc y3.2.1 y3.2.2)) fun y5=>
 M.bind (M.det (Yi (⟨(IntKind.u16.wrap y3.1),y5.1⟩:DT))) fun v7=>
 M.bind (cond (!v7)
  (M.bind (M.det (zX 4 y5.2.1 y5.2.2)) fun y12=>
  M.pure (y12.1,y12.2))
  (M.pure (y5.2.1,y5.2.2))) (fun⟨v9,v10⟩=>
 M.bind (M.det (zm v9 v10)) fun y14=>
 cond (!decide (y14.1=0))
  (M.pure ((⟨0,0⟩:DT),y14.2.1,y14.2.2))
  (M.pure (((⟨(IntKind.u16.wrap y3.1),y5.1⟩:DT),y14.2.1,y14.2.2))))
def xx(most1:Int)(b_2:List Int)(bad_3:Int):M (ByteArray×List Int×Int):=
 M.bind (M.det (zc b_2 bad_3)) fun y4=>
 M.bind (M.det (zm y4.2.1 y4.2.2)) fun y6=>
 cond (!decide (y6.1=0))
  (M.pure ((⟨#[]⟩:ByteArray),y6.2.1,y6.2.2))
  (cond ((decide ((IntKind.u64.wrap (max most1 0)) < y4.1)))
   (M.bind (M.det (zX 3 y6.2.1 y6.2.2)) fun y10=>
   M.pure ((⟨#[]⟩:ByteArray),y10.1,y10.2))
   (M.bind (M.det (xI y6.2.1 y6.2.2)) fun y12=>
   cond ((decide ((IntKind.u64.wrap y12.1) < y4.1)))
    (M.bind (M.det (zX 2 y12.2.1 y12.2.2)) fun y15=>
    M.pure ((⟨#[]⟩:ByteArray),y15.1,y15.2))
    (M.bind (M.det (xl (IntKind.i64.wrap y4.1) y12.2.1 y12.2.2)) fun y17=>
    M.pure ((wha y17.1),y17.2.1,y17.2.2))))
def wh(y4:Int×List Int×Int):Int×List DT×List Int×Int->M (M.Step (Int×List DT×List Int×Int) (M.Ex (List DT×List Int×Int) (List DT×List Int×Int))):=fun⟨v52,out53,v54,v55⟩=>
 cond (decide (v52 < y4.1))
  (M.bind (M.det (ud v54 v55)) fun y57=>
  M.bind (cond ((decide (0<=((IntKind.i64.wrap (((out53.length):Int) - 1))))))
   (M.bind (M.idx out53 ((IntKind.i64.wrap (((out53.length):Int) - 1)))) fun x61=>
   M.bind (M.det (Zy x61 y57.1)) fun v63=>
   M.pure (decide (0<=v63)))
   (M.pure false)) (fun v59=>
  M.bind (cond v59
   (M.bind (M.det (zX 4 y57.2.1 y57.2.2)) fun y68=>
   M.pure (y68.1,y68.2))
   (M.pure (y57.2.1,y57.2.2))) (fun⟨v65,v66⟩=>
  M.bind (M.det (zm v65 v66)) fun y70=>
  cond (!decide (y70.1=0))
   (M.pure (.done ((.ret (([]:List DT),y70.2.1,y70.2.2)))))
   (M.yk ((out53.length+List.length ([y57.1]))*16<=140737488355328) <|
   M.pure (.next (((IntKind.u64.wrap (v52+1)),(out53++[y57.1]),y70.2.1,y70.2.2)))))))
  (M.pure (.done (.brk (out53,v54,v55))))
def uz(most1:Int)(b_2:List Int)(bad_3:Int):M (List DT×List Int×Int):=
 M.bind (M.det (zc b_2 bad_3)) fun y4=>
 cond ((decide ((IntKind.u64.wrap (max most1 0)) < y4.1)))
  (M.bind (M.det (zX 3 y4.2.1 y4.2.2)) fun y7=>
  M.pure (([]:List DT),y7.1,y7.2))
  (M.bind (M.loop (wh y4) (0,([]:List DT),y4.2.1,y4.2.2)) (M.exk (fun⟨out9,v10,v11⟩=>
  M.pure (out9,v10,v11))))
def Xn(b_1:List Int)(bad_2:Int):M (EV×List Int×Int):=
 M.bind (M.det (ud b_1 bad_2)) fun y3=>
 M.bind (M.det (yR y3.2.1 y3.2.2)) fun y5=>
 M.bind (M.det (zc y5.2.1 y5.2.2)) fun y7=>
 M.bind (M.det (yR y7.2.1 y7.2.2)) fun y9=>
 M.bind (M.det (xx 60 y9.2.1 y9.2.2)) fun y11=>
 M.bind (M.det (uz 256 y11.2.1 y11.2.2)) fun y13=>
 M.bind (M.det (Zp (⟨y3.1,y5.1,y7.1,y9.1,y11.1,y13.1⟩:EV))) fun v15=>
 M.bind (cond (!v15)
  (M.bind (M.det (zX 4 y13.2.1 y13.2.2)) fun y20=>
  M.pure (y20.1,y20.2))
  (M.pure (y13.2.1,y13.2.2))) (fun⟨v17,v18⟩=>
 M.bind (M.det (zm v17 v18)) fun y22=>
 cond (!decide (y22.1=0))
  (M.pure (((⟨(⟨0,0⟩:DT),0,0,0,(⟨#[]⟩:ByteArray),([]:List DT)⟩:EV),y22.2.1,y22.2.2)))
  (M.pure ((⟨y3.1,y5.1,y7.1,y9.1,y11.1,y13.1⟩:EV),y22.2.1,y22.2.2)))
def xZ(y4:Int×List Int×Int):Int×List EV×List Int×Int->M (M.Step (Int×List EV×List Int×Int) (M.Ex (List EV×List Int×Int) (List EV×List Int×Int))):=fun⟨v52,out53,v54,v55⟩=>
 cond (decide (v52 < y4.1))
  (M.bind (M.det (Xn v54 v55)) fun y57=>
  M.bind (cond ((decide (0<=((IntKind.i64.wrap (((out53.length):Int) - 1))))))
   (M.bind (M.idx out53 ((IntKind.i64.wrap (((out53.length):Int) - 1)))) fun x61=>
   M.bind (M.det (Zy x61.dot y57.1.dot)) fun v63=>
   M.pure (decide (0<=v63)))
   (M.pure false)) (fun v59=>
  M.bind (cond v59
   (M.bind (M.det (zX 4 y57.2.1 y57.2.2)) fun y68=>
   M.pure (y68.1,y68.2))
   (M.pure (y57.2.1,y57.2.2))) (fun⟨v65,v66⟩=>
  M.bind (M.det (zm v65 v66)) fun y70=>
  cond (!decide (y70.1=0))
   (M.pure (.done ((.ret (([]:List EV),y70.2.1,y70.2.2)))))
   (M.yk ((out53.length+List.length ([y57.1]))*80<=140737488355328) <|
   M.pure (.next (((IntKind.u64.wrap (v52+1)),(out53++[y57.1]),y70.2.1,y70.2.2)))))))
  (M.pure (.done (.brk (out53,v54,v55))))
def vy(most1:Int)(b_2:List Int)(bad_3:Int):M (List EV×List Int×Int):=
 M.bind (M.det (zc b_2 bad_3)) fun y4=>
 cond ((decide ((IntKind.u64.wrap (max most1 0)) < y4.1)))
  (M.bind (M.det (zX 3 y4.2.1 y4.2.2)) fun y7=>
  M.pure (([]:List EV),y7.1,y7.2))
  (M.bind (M.loop (xZ y4) (0,([]:List EV),y4.2.1,y4.2.2)) (M.exk (fun⟨out9,v10,v11⟩=>
  M.pure (out9,v10,v11))))
def wi(b_1:List Int)(bad_2:Int):M (Int×List Int×Int):=
 M.bind (M.det (xI b_1 bad_2)) fun y3=>
 M.bind (cond (decide (0 < y3.1))
  (M.bind (M.det (zX 4 y3.2.1 y3.2.2)) fun y8=>
  M.pure (y8.1,y8.2))
  (M.pure (y3.2.1,y3.2.2))) (fun⟨v5,v6⟩=>
 M.bind (M.det (zm v5 v6)) fun y10=>
 M.pure (y10.1,y10.2.1,y10.2.2))
def We :Int×List Int×List Int×Int->M (M.Step (Int×List Int×List Int×Int) (List Int×List Int×Int)):=fun⟨v25,v26,v27,v28⟩=>
 cond (decide (v25 < 16))
  (M.bind (M.det (zc v27 v28)) fun y30=>
  M.yk ((v26.length+List.length ([y30.1]))*8<=140737488355328) <|
  M.pure (.next (((IntKind.i64.wrap (v25+1)),(v26++[y30.1]),y30.2.1,y30.2.2))))
  (M.pure (.done (v26,v27,v28)))
def Wf(y8:List TMember×List Int×Int):Int×List TRow×List Int×Int->M (M.Step (Int×List TRow×List Int×Int) (List TRow×List Int×Int)):=fun⟨v52,v53,v54,v55⟩=>
 cond ((decide (v52 < (y8.1.length:Int))))
  (M.bind (M.idx y8.1 v52) fun x57=>
  M.bind (M.det (uc v54 v55)) fun y59=>
  M.yk ((v53.length+List.length ([(⟨x57.dev,y59.1⟩:TRow)]))*32<=140737488355328) <|
  M.pure (.next (((IntKind.i64.wrap (v52+1)),(v53++[(⟨x57.dev,y59.1⟩:TRow)]),y59.2.1,y59.2.2))))
  (M.pure (.done (v53,v54,v55)))
def Ux(b1:List Int):M (THubState×Int):=
 M.bind (M.det (VX b1)) fun y2=>
 M.bind (M.det (zc y2.1 y2.2)) fun y4=>
 M.bind (M.det (yQ 65535 y4.2.1 y4.2.2)) fun y6=>
 M.bind (M.det (vU y6.2.1 y6.2.2)) fun y8=>
 M.bind (M.loop We (0,([]:List Int),y8.2.1,y8.2.2)) (fun⟨v10,v11,v12⟩=>
 M.bind (M.loop (Wf y8) (0,([]:List TRow),v11,v12)) (fun⟨v33,v34,v35⟩=>
 M.bind (M.det (uc v34 v35)) fun y62=>
 M.bind (M.det (vy 4096 y62.2.1 y62.2.2)) fun y64=>
 M.bind (M.det (wi y64.2.1 y64.2.2)) fun y66=>
 cond (!decide (y66.1=0))
  (M.pure (((⟨0,0,([]:List TMember),([]:List Int),([]:List TRow),([]:List PT),([]:List EV)⟩:THubState),y66.1)))
  (M.bind (M.det (Zq (⟨y4.1,(IntKind.u16.wrap y6.1),y8.1,v10,v33,y62.1,y64.1⟩:THubState))) fun v69=>
  cond (!v69)
   (M.pure (((⟨0,0,([]:List TMember),([]:List Int),([]:List TRow),([]:List PT),([]:List EV)⟩:THubState),4)))
   (M.pure (((⟨y4.1,(IntKind.u16.wrap y6.1),y8.1,v10,v33,y62.1,y64.1⟩:THubState),0))))))
def YH(x7:Int)(b1:List Int)(at2:Int):Int×Int->M (M.Step (Int×Int) Int):=fun⟨v26,i27⟩=>
 cond ((decide (i27<=(IntKind.i64.wrap x7))))
  (M.bind (M.idx b1 (IntKind.i64.wrap (at2+i27))) fun x29=>
  M.pure (.next (((IntKind.u64.wrap ((IntKind.u64.wrap (v26*256))+(IntKind.u64.wrap x29))),(IntKind.i64.wrap (i27+1))))))
  (M.pure (.done v26))
def Jy(b1:List Int)(at2:Int):M (Int×Int×Int):=
 M.bind (cond (decide (at2 < 0))
  (M.pure true)
  (M.pure ((decide ((b1.length:Int) < at2))))) (fun v3=>
 cond v3
  (M.pure (0,0,1))
  (cond ((decide (at2=(b1.length:Int))))
   (M.pure (0,0,2))
   (M.bind (M.idx b1 at2) fun x7=>
   M.bind (cond ((decide (8 < (IntKind.i64.wrap x7))))
    (M.pure true)
    (cond ((decide (0 < (IntKind.i64.wrap x7))))
     (cond ((decide (0 < ((IntKind.i64.wrap (((IntKind.i64.wrap ((b1.length:Int) - at2))) - 1))))))
      (M.bind (M.idx b1 (IntKind.i64.wrap (at2+1))) fun x13=>
      M.pure (decide (x13=0)))
      (M.pure false))
     (M.pure false))) (fun v9=>
   cond v9
    (M.pure (0,0,4))
    (cond ((decide (((IntKind.i64.wrap (((IntKind.i64.wrap ((b1.length:Int) - at2))) - 1))) < (IntKind.i64.wrap x7))))
     (M.pure (0,0,2))
     (M.bind (M.loop (YH x7 b1 at2) (0,1)) (fun v17=>
     M.pure ((v17,(IntKind.i64.wrap ((IntKind.i64.wrap (at2+1))+(IntKind.i64.wrap x7))),0)))))))))
def zI(e1:Int)(b_2:List Int)(at_3:Int)(bad_4:Int):M (List Int×Int×Int):=
 cond (decide (bad_4=0))
  (M.pure (b_2,at_3,e1))
  (M.pure (b_2,at_3,bad_4))
def zL(b_1:List Int)(at_2:Int)(bad_3:Int):M (Int×List Int×Int×Int):=
 cond (!decide (bad_3=0))
  (M.pure (0,b_1,at_2,bad_3))
  (M.bind (M.det (Jy b_1 at_2)) fun v5=>
  cond (!decide (v5.2.2=0))
   (M.bind (M.det (zI v5.2.2 b_1 at_2 bad_3)) fun y8=>
   M.pure (0,y8.1,y8.2.1,y8.2.2))
   (M.pure (v5.1,b_1,v5.2.1,bad_3)))
def zj(most1:Int)(b_2:List Int)(at_3:Int)(bad_4:Int):M (Int×List Int×Int×Int):=
 M.bind (M.det (zL b_2 at_3 bad_4)) fun y5=>
 cond (decide (most1 < y5.1))
  (M.bind (M.det (zI 4 y5.2.1 y5.2.2.1 y5.2.2.2)) fun y8=>
  M.pure (0,y8.1,y8.2.1,y8.2.2))
  (M.pure (y5.1,y5.2.1,y5.2.2.1,y5.2.2.2))
def zq(b_1:List Int)(at_2:Int)(bad_3:Int):M (Int×List Int×Int×Int):=
 cond (!decide (bad_3=0))
  (M.pure (0,b_1,at_2,bad_3))
  (cond ((decide ((b_1.length:Int)<=at_2)))
   (M.bind (M.det (zI 2 b_1 at_2 bad_3)) fun y6=>
   M.pure (0,y6.1,y6.2.1,y6.2.2))
   (M.bind (M.idx b_1 ((IntKind.i64.wrap ((IntKind.i64.wrap (at_2+1)) - 1)))) fun x8=>
   M.pure ((x8,b_1,(IntKind.i64.wrap (at_2+1)),bad_3))))
def xy(y135:Int×List Int×Int×Int):Int×List RN×List Int×Int×Int->M (M.Step (Int×List RN×List Int×Int×Int) (List RN×List Int×Int×Int)):=fun⟨k164,p165,v166,v167,v168⟩=>
 M.bind (cond (decide (k164 < y135.1))
  (M.pure (decide (v168=0)))
  (M.pure false)) (fun v169=>
 cond v169
  (M.bind (M.det (zL v166 v167 v168)) fun y172=>
  M.yk ((List.length ([]:List RN)+p165.length)*16<=140737488355328) <|
  M.bind (M.det (zL y172.2.1 y172.2.2.1 y172.2.2.2)) fun y175=>
  M.yk ((List.length (([]:List RN)++p165)+List.length ([(⟨y172.1,y175.1⟩:RN)]))*16<=140737488355328) <|
  M.pure (.next (((IntKind.u64.wrap (k164+1)),((([]:List RN)++p165)++[(⟨y172.1,y175.1⟩:RN)]),y175.2.1,y175.2.2.1,y175.2.2.2))))
  (M.pure (.done (p165,v166,v167,v168))))
def wk(y4:Int×List Int×Int×Int):Int×List PT×List Int×Int×Int->M (M.Step (Int×List PT×List Int×Int×Int) (List PT×List Int×Int×Int)):=fun⟨i121,out122,v123,v124,v125⟩=>
 M.bind (cond (decide (i121 < y4.1))
  (M.pure (decide (v125=0)))
  (M.pure false)) (fun v126=>
 cond v126
  (M.bind (M.bind (M.det (zj 65535 v123 v124 v125)) fun y133=>
  M.bind (M.det (zL y133.2.1 y133.2.2.1 y133.2.2.2)) fun y135=>
  M.bind (M.loop (xy y135) (0,([]:List RN),y135.2.1,y135.2.2.1,y135.2.2.2)) (fun⟨p137,v138,v139,v140⟩=>
  M.yk ((out122.length+List.length ([(⟨(IntKind.u16.wrap y133.1),p137⟩:PT)]))*32<=140737488355328) <|
  M.pure (((out122++[(⟨(IntKind.u16.wrap y133.1),p137⟩:PT)]),v138,v139,v140)))) (fun⟨out129,v130,v131,v132⟩=>
  M.pure (.next (((IntKind.u64.wrap (i121+1)),out129,v130,v131,v132)))))
  (M.pure (.done (out122,v123,v124,v125))))
def Wg(b_1:List Int)(at_2:Int)(bad_3:Int):M (List PT×List Int×Int×Int):=
 M.bind (M.det (zL b_1 at_2 bad_3)) fun y4=>
 M.bind (M.loop (wk y4) (0,([]:List PT),y4.2.1,y4.2.2.1,y4.2.2.2)) (fun⟨out6,v7,v8,v9⟩=>
 M.bind (cond (decide (v9=0))
  (M.bind (M.det (VP out6)) fun v182=>
  M.pure (out6,(!v182)))
  (M.pure (out6,false))) (fun⟨out179,v180⟩=>
 M.bind (cond v180
  (M.bind (M.det (zI 4 v7 v8 v9)) fun y188=>
  M.pure (y188.1,y188.2.1,y188.2.2))
  (M.pure (v7,v8,v9))) (fun⟨v184,v185,v186⟩=>
 cond (!decide (v186=0))
  (M.pure (([]:List PT),v184,v185,v186))
  (M.pure (out179,v184,v185,v186)))))
def XG(b_1:List Int)(at_2:Int)(bad_3:Int):M (DT×List Int×Int×Int):=
 M.bind (M.det (zj 65535 b_1 at_2 bad_3)) fun y4=>
 M.bind (M.det (zL y4.2.1 y4.2.2.1 y4.2.2.2)) fun y6=>
 M.bind (cond (decide (y6.2.2.2=0))
  (M.bind (M.det (uq (⟨(IntKind.u16.wrap y4.1),y6.1⟩:DT))) fun v10=>
  M.pure (!v10))
  (M.pure false)) (fun v8=>
 M.bind (cond v8
  (M.bind (M.det (zI 4 y6.2.1 y6.2.2.1 y6.2.2.2)) fun y16=>
  M.pure (y16.1,y16.2.1,y16.2.2))
  (M.pure (y6.2.1,y6.2.2.1,y6.2.2.2))) (fun⟨v12,v13,v14⟩=>
 cond (!decide (v14=0))
  (M.pure ((⟨0,0⟩:DT),v12,v13,v14))
  (M.pure (((⟨(IntKind.u16.wrap y4.1),y6.1⟩:DT),v12,v13,v14)))))
def yZ(most1:Int)(b_2:List Int)(at_3:Int)(bad_4:Int):M (ByteArray×List Int×Int×Int):=
 M.bind (M.det (zL b_2 at_3 bad_4)) fun y5=>
 M.bind (cond (decide (most1 < 0))
  (M.pure 0)
  (M.pure most1)) (fun most7=>
 M.bind (cond ((decide ((IntKind.u64.wrap most7) < y5.1)))
  (M.bind (M.det (zI 3 y5.2.1 y5.2.2.1 y5.2.2.2)) fun y13=>
  M.pure (y13.1,y13.2.1,y13.2.2))
  (M.pure (y5.2.1,y5.2.2.1,y5.2.2.2))) (fun⟨v9,v10,v11⟩=>
 M.bind (cond (decide (v11=0))
  (M.pure ((decide (((IntKind.u64.wrap ((IntKind.i64.wrap ((v9.length:Int) - v10))))) < y5.1))))
  (M.pure false)) (fun v15=>
 M.bind (cond v15
  (M.bind (M.det (zI 2 v9 v10 v11)) fun y21=>
  M.pure (y21.1,y21.2.1,y21.2.2))
  (M.pure (v9,v10,v11))) (fun⟨v17,v18,v19⟩=>
 cond (!decide (v19=0))
  (M.pure ((⟨#[]⟩:ByteArray),v17,v18,v19))
  (M.yk ((0:Int)<=v18/\(v18:Int)<=((IntKind.i64.wrap (v18+(IntKind.i64.wrap y5.1))))/\((IntKind.i64.wrap (v18+(IntKind.i64.wrap y5.1))))<=(v17.length:Int)) <|
  M.pure (((wha ((List.drop (Int.toNat v18) (List.take (Int.toNat ((IntKind.i64.wrap (v18+(IntKind.i64.wrap y5.1))))) v17)))),v17,(IntKind.i64.wrap (v18+(IntKind.i64.wrap y5.1))),v19)))))))
def xU(y7:Int×List Int×Int×Int):Int×List DT×List Int×Int×Int->M (M.Step (Int×List DT×List Int×Int×Int) (List DT×List Int×Int×Int)):=fun⟨i62,out63,v64,v65,v66⟩=>
 M.bind (cond (decide (i62 < y7.1))
  (M.pure (decide (v66=0)))
  (M.pure false)) (fun v67=>
 cond v67
  (M.bind (M.det (XG v64 v65 v66)) fun y70=>
  M.bind (cond (decide (y70.2.2.2=0))
   (cond ((decide (0<=((IntKind.i64.wrap (((out63.length):Int) - 1))))))
    (M.bind (M.idx out63 ((IntKind.i64.wrap (((out63.length):Int) - 1)))) fun x75=>
    M.bind (M.det (ZK x75 y70.1)) fun v77=>
    M.pure (decide (0<=v77)))
    (M.pure false))
   (M.pure false)) (fun v72=>
  M.bind (cond v72
   (M.bind (M.det (zI 4 y70.2.1 y70.2.2.1 y70.2.2.2)) fun y83=>
   M.pure (y83.1,y83.2.1,y83.2.2))
   (M.pure (y70.2.1,y70.2.2.1,y70.2.2.2))) (fun⟨v79,v80,v81⟩=>
  M.yk ((out63.length+List.length ([y70.1]))*16<=140737488355328) <|
  M.pure (.next (((IntKind.u64.wrap (i62+1)),(out63++[y70.1]),v79,v80,v81))))))
  (M.pure (.done (out63,v64,v65,v66))))
def XH(most1:Int)(b_2:List Int)(at_3:Int)(bad_4:Int):M (List DT×List Int×Int×Int):=
 M.bind (cond (decide (most1 < 0))
  (M.pure 0)
  (M.pure most1)) (fun most5=>
 M.bind (M.det (zL b_2 at_3 bad_4)) fun y7=>
 M.bind (cond ((decide ((IntKind.u64.wrap most5) < y7.1)))
  (M.bind (M.det (zI 3 y7.2.1 y7.2.2.1 y7.2.2.2)) fun y13=>
  M.pure (y13.1,y13.2.1,y13.2.2))
  (M.pure (y7.2.1,y7.2.2.1,y7.2.2.2))) (fun⟨v9,v10,v11⟩=>
 M.bind (M.loop (xU y7) (0,([]:List DT),v9,v10,v11)) (fun⟨out15,v16,v17,v18⟩=>
 cond (!decide (v18=0))
  (M.pure (([]:List DT),v16,v17,v18))
  (M.pure (out15,v16,v17,v18)))))
def Uy(b_1:List Int)(at_2:Int)(bad_3:Int):M (EV×List Int×Int×Int):=
 M.bind (M.det (XG b_1 at_2 bad_3)) fun y4=>
 M.bind (M.det (zq y4.2.1 y4.2.2.1 y4.2.2.2)) fun y6=>
 M.bind (M.det (zL y6.2.1 y6.2.2.1 y6.2.2.2)) fun y8=>
 M.bind (M.det (zq y8.2.1 y8.2.2.1 y8.2.2.2)) fun y10=>
 M.bind (M.det (yZ 60 y10.2.1 y10.2.2.1 y10.2.2.2)) fun y12=>
 M.bind (M.det (XH 256 y12.2.1 y12.2.2.1 y12.2.2.2)) fun y14=>
 M.bind (cond (decide (y14.2.2.2=0))
  (M.bind (M.det (VT (⟨y4.1,y6.1,y8.1,y10.1,y12.1,y14.1⟩:EV))) fun v18=>
  M.pure (!v18))
  (M.pure false)) (fun v16=>
 M.bind (cond v16
  (M.bind (M.det (zI 4 y14.2.1 y14.2.2.1 y14.2.2.2)) fun y24=>
  M.pure (y24.1,y24.2.1,y24.2.2))
  (M.pure (y14.2.1,y14.2.2.1,y14.2.2.2))) (fun⟨v20,v21,v22⟩=>
 cond (!decide (v22=0))
  (M.pure (((⟨(⟨0,0⟩:DT),0,0,0,(⟨#[]⟩:ByteArray),([]:List DT)⟩:EV),v20,v21,v22)))
  (M.pure ((⟨y4.1,y6.1,y8.1,y10.1,y12.1,y14.1⟩:EV),v20,v21,v22))))
def yu(y7:Int×List Int×Int×Int):Int×List EV×List Int×Int×Int->M (M.Step (Int×List EV×List Int×Int×Int) (List EV×List Int×Int×Int)):=fun⟨i62,out63,v64,v65,v66⟩=>
 M.bind (cond (decide (i62 < y7.1))
  (M.pure (decide (v66=0)))
  (M.pure false)) (fun v67=>
 cond v67
  (M.bind (M.det (Uy v64 v65 v66)) fun y70=>
  M.bind (cond (decide (y70.2.2.2=0))
   (cond ((decide (0<=((IntKind.i64.wrap (((out63.length):Int) - 1))))))
    (M.bind (M.idx out63 ((IntKind.i64.wrap (((out63.length):Int) - 1)))) fun x75=>
    M.bind (M.det (ZK x75.dot y70.1.dot)) fun v77=>
    M.pure (decide (0<=v77)))
    (M.pure false))
   (M.pure false)) (fun v72=>
  M.bind (cond v72
   (M.bind (M.det (zI 4 y70.2.1 y70.2.2.1 y70.2.2.2)) fun y83=>
   M.pure (y83.1,y83.2.1,y83.2.2))
   (M.pure (y70.2.1,y70.2.2.1,y70.2.2.2))) (fun⟨v79,v80,v81⟩=>
  M.yk ((out63.length+List.length ([y70.1]))*80<=140737488355328) <|
  M.pure (.next (((IntKind.u64.wrap (i62+1)),(out63++[y70.1]),v79,v80,v81))))))
  (M.pure (.done (out63,v64,v65,v66))))
def ZA(most1:Int)(b_2:List Int)(at_3:Int)(bad_4:Int):M (List EV×List Int×Int×Int):=
 M.bind (cond (decide (most1 < 0))
  (M.pure 0)
  (M.pure most1)) (fun most5=>
 M.bind (M.det (zL b_2 at_3 bad_4)) fun y7=>
 M.bind (cond ((decide ((IntKind.u64.wrap most5) < y7.1)))
  (M.bind (M.det (zI 3 y7.2.1 y7.2.2.1 y7.2.2.2)) fun y13=>
  M.pure (y13.1,y13.2.1,y13.2.2))
  (M.pure (y7.2.1,y7.2.2.1,y7.2.2.2))) (fun⟨v9,v10,v11⟩=>
 M.bind (M.loop (yu y7) (0,([]:List EV),v9,v10,v11)) (fun⟨out15,v16,v17,v18⟩=>
 cond (!decide (v18=0))
  (M.pure (([]:List EV),v16,v17,v18))
  (M.pure (out15,v16,v17,v18)))))
def xh(b_1:List Int)(at_2:Int)(bad_3:Int):M (Int×List Int×Int×Int):=
 cond (!decide (bad_3=0))
  (M.pure (0,b_1,at_2,bad_3))
  (M.pure (((IntKind.i64.wrap ((b_1.length:Int) - at_2)),b_1,at_2,bad_3)))
def ye(b_1:List Int)(at_2:Int)(bad_3:Int):M (Int×List Int×Int×Int):=
 M.bind (M.det (xh b_1 at_2 bad_3)) fun y4=>
 M.bind (cond (decide (0 < y4.1))
  (M.bind (M.det (zI 4 y4.2.1 y4.2.2.1 y4.2.2.2)) fun y10=>
  M.pure (y10.1,y10.2.1,y10.2.2))
  (M.pure (y4.2.1,y4.2.2.1,y4.2.2.2))) (fun⟨v6,v7,v8⟩=>
 M.pure (v8,v6,v7,v8))
def VY(y6:Int×List Int×Int×Int):Int×List TMember×List Int×Int×Int->M (M.Step (Int×List TMember×List Int×Int×Int) (List TMember×List Int×Int×Int)):=fun⟨i45,s46,v47,v48,v49⟩=>
 M.bind (cond (decide (i45 < y6.1))
  (M.pure (decide (v49=0)))
  (M.pure false)) (fun v50=>
 cond v50
  (M.bind (M.det (zj 65535 v47 v48 v49)) fun y53=>
  M.bind (M.det (zq y53.2.1 y53.2.2.1 y53.2.2.2)) fun y55=>
  M.bind (M.det (zL y55.2.1 y55.2.2.1 y55.2.2.2)) fun y57=>
  M.yk ((List.length ([]:List TMember)+s46.length)*16<=140737488355328) <|
  M.yk ((List.length (([]:List TMember)++s46)+List.length ([(⟨(IntKind.u16.wrap y53.1),y55.1,y57.1⟩:TMember)]))*16<=140737488355328) <|
  M.pure (.next (((IntKind.u64.wrap (i45+1)),((([]:List TMember)++s46)++[(⟨(IntKind.u16.wrap y53.1),y55.1,y57.1⟩:TMember)]),y57.2.1,y57.2.2.1,y57.2.2.2))))
  (M.pure (.done (s46,v47,v48,v49))))
def jm :Int×List Int×List Int×Int×Int->M (M.Step (Int×List Int×List Int×Int×Int) (List Int×List Int×Int×Int)):=fun⟨i80,s81,v82,v83,v84⟩=>
 cond (decide (i80 < 16))
  (M.yk ((List.length ([]:List Int)+s81.length)*8<=140737488355328) <|
  M.bind (M.det (zL v82 v83 v84)) fun y87=>
  M.yk ((List.length (([]:List Int)++s81)+List.length ([y87.1]))*8<=140737488355328) <|
  M.pure (.next (((IntKind.i64.wrap (i80+1)),((([]:List Int)++s81)++[y87.1]),y87.2.1,y87.2.2.1,y87.2.2.2))))
  (M.pure (.done (s81,v82,v83,v84)))
def jo(s14:List TMember):Int×List TRow×List Int×Int×Int->M (M.Step (Int×List TRow×List Int×Int×Int) (List TRow×List Int×Int×Int)):=fun⟨i113,s114,v115,v116,v117⟩=>
 cond ((decide (i113 < (s14.length:Int))))
  (M.yk ((List.length ([]:List TRow)+s114.length)*32<=140737488355328) <|
  M.bind (M.idx s14 i113) fun x120=>
  M.bind (M.det (Wg v115 v116 v117)) fun y122=>
  M.yk ((List.length (([]:List TRow)++s114)+List.length ([(⟨x120.dev,y122.1⟩:TRow)]))*32<=140737488355328) <|
  M.pure (.next (((IntKind.i64.wrap (i113+1)),((([]:List TRow)++s114)++[(⟨x120.dev,y122.1⟩:TRow)]),y122.2.1,y122.2.2.1,y122.2.2.2))))
  (M.pure (.done (s114,v115,v116,v117)))
def yHa(b1:List Int):M (THubState×Int):=
 M.bind (M.det (zL b1 0 0)) fun y2=>
 M.bind (M.det (zj 65535 y2.2.1 y2.2.2.1 y2.2.2.2)) fun y4=>
 M.bind (M.det (zL y4.2.1 y4.2.2.1 y4.2.2.2)) fun y6=>
 M.bind (cond (decide (16 < y6.1))
  (M.bind (M.det (zI 3 y6.2.1 y6.2.2.1 y6.2.2.2)) fun y12=>
  M.pure (y12.1,y12.2.1,y12.2.2))
  (M.pure (y6.2.1,y6.2.2.1,y6.2.2.2))) (fun⟨v8,v9,v10⟩=>
 M.bind (M.loop (VY y6) (0,([]:List TMember),v8,v9,v10)) (fun⟨s14,v15,v16,v17⟩=>
 M.bind (M.loop jm (0,([]:List Int),v15,v16,v17)) (fun⟨s61,v62,v63,v64⟩=>
 M.bind (M.loop (jo s14) (0,([]:List TRow),v62,v63,v64)) (fun⟨s90,v91,v92,v93⟩=>
 M.bind (M.det (Wg v91 v92 v93)) fun y125=>
 M.bind (M.det (ZA 4096 y125.2.1 y125.2.2.1 y125.2.2.2)) fun y127=>
 M.bind (M.det (ye y127.2.1 y127.2.2.1 y127.2.2.2)) fun y129=>
 M.bind (cond (decide (y129.1=0))
  (M.bind (M.det (VU (⟨y2.1,(IntKind.u16.wrap y4.1),s14,s61,s90,y125.1,y127.1⟩:THubState))) fun v135=>
  cond (!v135.2)
   (M.bind (M.det (zI 4 y129.2.1 y129.2.2.1 y129.2.2.2)) fun y138=>
   M.pure (y138.1,y138.2.1,y138.2.2))
   (M.pure (y129.2.1,y129.2.2.1,y129.2.2.2)))
  (M.pure (y129.2.1,y129.2.2.1,y129.2.2.2))) (fun⟨v131,v132,v133⟩=>
 cond (!decide (v133=0))
  (M.pure (((⟨0,0,([]:List TMember),([]:List Int),([]:List TRow),([]:List PT),([]:List EV)⟩:THubState),v133)))
  (M.pure (((⟨y2.1,(IntKind.u16.wrap y4.1),s14,s61,s90,y125.1,y127.1⟩:THubState),0))))))))
def QC(a1:List TMember)(b2:List TMember):Int->M (M.Step Int (M.Ex Unit Bool)):=fun i17=>
 cond ((decide (i17 < (a1.length:Int))))
  (M.bind (M.idx a1 i17) fun x19=>
  M.bind (M.idx b2 i17) fun x21=>
  cond ((!(decide (x19.dev=x21.dev)&&(decide (x19.slot=x21.slot)&&decide (x19.try_=x21.try_)))))
   (M.pure (.done (.ret false)))
   (M.pure (.next (IntKind.i64.wrap (i17+1)))))
  (M.pure (.done (.brk ())))
def Jz(a1:List TMember)(b2:List TMember):M Bool:=
 cond ((!decide ((a1.length:Int)=(b2.length:Int))))
  (M.pure false)
  (M.bind (M.loop (QC a1 b2) 0) (M.exk (fun _=>
  M.pure true)))
def Xo(a1:List DT)(b2:List DT):Int->M (M.Step Int (M.Ex Unit Bool)):=fun i17=>
 cond ((decide (i17 < (a1.length:Int))))
  (M.bind (M.idx a1 i17) fun x19=>
  M.bind (M.idx b2 i17) fun x21=>
  cond ((!(decide (x19.dev=x21.dev)&&decide (x19.n=x21.n))))
   (M.pure (.done (.ret false)))
   (M.pure (.next (IntKind.i64.wrap (i17+1)))))
  (M.pure (.done (.brk ())))
def qA(a1:List DT)(b2:List DT):M Bool:=
 cond ((!decide ((a1.length:Int)=(b2.length:Int))))
  (M.pure false)
  (M.bind (M.loop (Xo a1 b2) 0) (M.exk (fun _=>
  M.pure true)))
def qB(a1:EV)(b2:EV):M Bool:=
 M.bind (cond (((decide (a1.dot.dev=b2.dot.dev)&&decide (a1.dot.n=b2.dot.n))))
  (cond (decide (a1.kind=b2.kind))
   (cond (decide (a1.cid=b2.cid))
    (cond (decide (a1.field=b2.field))
     (cond (decide (a1.text=b2.text))
      (M.bind (M.det (qA a1.kills b2.kills)) fun v9=>
      M.pure v9)
      (M.pure false))
     (M.pure false))
    (M.pure false))
   (M.pure false))
  (M.pure false)) (fun v3=>
 M.pure v3)
def VZ(a1:List EV)(b2:List EV):Int->M (M.Step Int (M.Ex Unit Bool)):=fun i21=>
 cond ((decide (i21 < (a1.length:Int))))
  (M.bind (M.idx a1 i21) fun x23=>
  M.bind (M.idx b2 i21) fun x25=>
  M.bind (M.det (qB x23 x25)) fun v27=>
  cond (!v27)
   (M.pure (.done (.ret false)))
   (M.pure (.next (IntKind.i64.wrap (i21+1)))))
  (M.pure (.done (.brk ())))
def yIa(a1:List EV)(b2:List EV):M Bool:=
 cond ((!decide ((a1.length:Int)=(b2.length:Int))))
  (M.pure false)
  (M.bind (M.loop (VZ a1 b2) 0) (M.exk (fun _=>
  M.pure true)))
def QD(a1:THubState)(b2:THubState):Int->M (M.Step Int (M.Ex Unit Bool)):=fun i30=>
 cond ((decide (i30 < (a1.tries.length:Int))))
  (M.bind (M.idx a1.tries i30) fun x32=>
  M.bind (M.idx b2.tries i30) fun x34=>
  cond (!decide (x32=x34))
   (M.pure (.done (.ret false)))
   (M.pure (.next (IntKind.i64.wrap (i30+1)))))
  (M.pure (.done (.brk ())))
def QE(a1:THubState)(b2:THubState):Int->M (M.Step Int (M.Ex Unit Bool)):=fun i66=>
 cond ((decide (i66 < (a1.rows.length:Int))))
  (M.bind (M.bind (M.idx a1.rows i66) fun x69=>
  M.bind (M.idx b2.rows i66) fun x71=>
  cond (!decide (x69.who=x71.who))
   (M.pure true)
   (M.bind (M.idx a1.rows i66) fun x74=>
   M.bind (M.idx b2.rows i66) fun x76=>
   M.bind (M.det (qy x74.have_ x76.have_)) fun v78=>
   M.pure (!v78))) (fun v68=>
  cond v68
   (M.pure (.done (.ret false)))
   (M.pure (.next (IntKind.i64.wrap (i66+1))))))
  (M.pure (.done (.brk ())))
def qC(a1:THubState)(b2:THubState):M Bool:=
 M.bind (cond (!decide (a1.epoch=b2.epoch))
  (M.pure true)
  (cond (!decide (a1.last=b2.last))
   (M.pure true)
   (M.bind (M.det (Jz a1.members b2.members)) fun v6=>
   cond (!v6)
    (M.pure true)
    (cond ((!decide ((a1.tries.length:Int)=(b2.tries.length:Int))))
     (M.pure true)
     (cond ((!decide ((a1.rows.length:Int)=(b2.rows.length:Int))))
      (M.pure true)
      (M.bind (M.det (qy a1.ctx b2.ctx)) fun v11=>
      cond (!v11)
       (M.pure true)
       (M.bind (M.det (yIa a1.all b2.all)) fun v14=>
       M.pure (!v14)))))))) (fun v3=>
 cond v3
  (M.pure false)
  (M.bind (M.loop (QD a1 b2) 0) (M.exk (fun _=>
  M.bind (M.loop (QE a1 b2) 0) (M.exk (fun _=>
  M.pure true))))))
def Zh(b1:List Int):M Bool:=
 cond ((decide (1500 < (b1.length:Int))))
  (M.bind (M.det (Wc)) fun v3=>
  M.pure v3)
  (M.bind (M.det (Ux b1)) fun v5=>
  M.bind (M.det (yHa b1)) fun v7=>
  M.bind (M.bind (M.det (qC v5.1 v7.1)) fun v10=>
  cond v10
   (cond (decide (v5.2=v7.2))
    (M.bind (M.det (Wc)) fun v14=>
    M.pure v14)
    (M.pure false))
   (M.pure false)) (fun v9=>
  M.pure v9))
end Go.Ep
