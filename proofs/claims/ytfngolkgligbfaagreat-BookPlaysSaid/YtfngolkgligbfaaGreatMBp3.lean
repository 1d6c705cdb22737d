/- Texts that the walks and laws lean on, side by side. -/
import Derived.Test.YtfngolkgligbfaaGreatProg
import Derived.Shelf.SlGeneric
import Derived.Shelf.SlLaysF0
import Derived.Ground.SlsfProg
import Derived.Shelf.SlSortCmp.WholeK
import Derived.Shelf.SlSortCmp.NoneTotal
import Derived.StillTactics
import Derived.RegionTactic
import Derived.Test.YtfngolkgligbfaaGreatMBp2
set_option linter.unusedVariables false
set_option linter.unusedSimpArgs false
namespace Go.Ep
open Go

def r13_Few_l0 (l1:List TEvent):Int → M (M.Step Int (M.Ex Unit Bool)):=fun i21=>
 cond ((decide (i21 < (List.length l1:Int))))
  (M.bind (M.bind (M.idx l1 i21) fun x24=>
  cond ((decide (300 < (List.length x24.kills:Int))))
   (M.pure true)
   (M.bind (M.idx l1 i21) fun x27=>
   M.pure ((decide (200 < (ByteArray.size x27.text:Int)))))) (fun v23=>
  cond v23
   (M.pure (.done (.ret false)))
   (M.pure (.next (IntKind.i64.wrap (i21 + 1))))))
  (M.pure (.done (.brk ())))
def r13_Few (l1:List TEvent) (most2:Int):M Bool:=
 cond ((decide (most2 < (List.length l1:Int))))
  (M.pure false)
  (M.bind (M.loop (r13_Few_l0 l1) 0) (M.exk (fun _=>
  M.pure true)))

def r09_Few_l0 (c1:List TPart):Int → M (M.Step Int (M.Ex Unit Bool)):=fun i12=>
 cond ((decide (i12 < (List.length c1:Int))))
  (M.bind (M.idx c1 i12) fun x14=>
  cond ((decide (30 < (List.length x14.runs:Int))))
   (M.pure (.done (.ret false)))
   (M.pure (.next (IntKind.i64.wrap (i12 + 1)))))
  (M.pure (.done (.brk ())))
def r09_Few (c1:List TPart):M Bool:=
 cond ((decide (30 < (List.length c1:Int))))
  (M.pure false)
  (M.bind (M.loop (r09_Few_l0 c1) 0) (M.exk (fun _=>
  M.pure true)))

def l18_Few_l0 (l1:List L18Act):Int → M (M.Step Int (M.Ex Unit Int)):=fun i29=>
 cond ((decide (i29 < (List.length l1:Int))))
  (M.bind (M.bind (M.idx l1 i29) fun x32=>
  M.bind (M.det (r13_Few ([x32.event]) 1)) fun v34=>
  cond (!v34)
   (M.pure true)
   (M.bind (M.idx l1 i29) fun x37=>
   M.bind (M.det (r09_Few x37.ctx)) fun v39=>
   M.pure (!v39))) (fun v31=>
  cond v31
   (M.pure (.done (.ret 0)))
   (M.pure (.next (IntKind.i64.wrap (i29 + 1))))))
  (M.pure (.done (.brk ())))
def l18_Few (l1:List L18Act) (most2:Int):M Int:=
 cond ((decide (most2 < (List.length l1:Int))))
  (M.pure 0)
  (M.bind (M.loop (l18_Few_l0 l1) 0) (M.exk (fun _=>
  M.pure 1)))

def cmp_isNaN_uint64 (x1:Int):M Bool:=
 M.pure (!decide (x1 = x1))

def cmp_Compare_uint64 (x1:Int) (y2:Int):M Int:=
 M.bind (M.det (cmp_isNaN_uint64 x1)) fun v3=>
 M.bind (M.det (cmp_isNaN_uint64 y2)) fun v5=>
 cond v3
  (cond v5
   (M.pure 0)
   (M.pure (-1)))
  (cond v5
   (M.pure 1)
   (cond (decide (x1 < y2))
    (M.pure (-1))
    (cond (decide (y2 < x1))
     (M.pure 1)
     (M.pure 0))))

def runs_Norm_l0 (l1:List TRun):Int × List TRun → M (M.Step (Int × List TRun) (List TRun)):=fun ⟨v23,some24⟩=>
 cond ((decide (v23 < (List.length l1:Int))))
  (M.bind (M.bind (M.idx l1 v23) fun x27=>
  M.bind (cond (decide (0 < x27.lo))
   (cond (decide (x27.lo ≤ x27.hi))
    (M.pure (decide (x27.hi ≤ 281474976710655)))
    (M.pure false))
   (M.pure false)) (fun v29=>
  cond v29
   (M.need ((List.length some24 + List.length ([x27])) * 16 ≤ 140737488355328) <|
   M.pure (some24 ++ [x27]))
   (M.pure some24))) (fun some26=>
  M.pure (.next (((IntKind.i64.wrap (v23 + 1)),some26)))))
  (M.pure (.done some24))
def runs_Norm_l1 (some2:List TRun) (s34:List TRun):Int × List TRun → M (M.Step (Int × List TRun) (List TRun)):=fun ⟨v69,out70⟩=>
 cond ((decide (v69 < ((List.length some2):Int))))
  (M.bind (M.bind (M.idx s34 v69) fun x73=>
  M.bind (cond ((decide (0 ≤ ((IntKind.i64.wrap (((List.length out70):Int) - 1))))))
   (M.bind (M.idx out70 ((IntKind.i64.wrap (((List.length out70):Int) - 1)))) fun x77=>
   M.pure ((decide (x73.lo ≤ (IntKind.u64.wrap (x77.hi + 1))))))
   (M.pure false)) (fun v75=>
  cond v75
   (M.bind (M.idx out70 ((IntKind.i64.wrap (((List.length out70):Int) - 1)))) fun x80=>
   M.bind (M.idx out70 ((IntKind.i64.wrap (((List.length out70):Int) - 1)))) fun x82=>
   M.pure ((List.set out70 ((Int.toNat ((IntKind.i64.wrap (((List.length out70):Int) - 1))))) (⟨x82.lo,(max x80.hi x73.hi)⟩:TRun))))
   (M.need ((List.length out70 + List.length ([x73])) * 16 ≤ 140737488355328) <|
   M.pure (out70 ++ [x73])))) (fun out72=>
  M.pure (.next (((IntKind.i64.wrap (v69 + 1)),out72)))))
  (M.pure (.done out70))
def runs_Norm (l1:List TRun):M (List TRun):=
 M.bind (M.loop (runs_Norm_l0 l1) (0,([]:List TRun))) (fun some2=>
 M.need (List.length some2 < 4611686018427387904)<|M.bind (M.srt ltRun some2) fun s34=>
 M.bind (M.loop (runs_Norm_l1 some2 s34) (0,([]:List TRun))) (fun out38=>
 M.pure out38))

def cmp_isNaN_uint16 (x1:Int):M Bool:=
 M.pure (!decide (x1 = x1))

def cmp_Compare_uint16 (x1:Int) (y2:Int):M Int:=
 M.bind (M.det (cmp_isNaN_uint16 x1)) fun v3=>
 M.bind (M.det (cmp_isNaN_uint16 y2)) fun v5=>
 cond v3
  (cond v5
   (M.pure 0)
   (M.pure (-1)))
  (cond v5
   (M.pure 1)
   (cond (decide (x1 < y2))
    (M.pure (-1))
    (cond (decide (y2 < x1))
     (M.pure 1)
     (M.pure 0))))

def ctx_order_l0 (m1:List (Int × List TRun)):List Nat × List TPart → M (M.Step (List Nat × List TPart) (List TPart)):=fun ⟨seen28,c29⟩=>
 M.need (∀ i ∈ seen28,i < List.length m1)<|M.bind (M.nxt (List.length m1) seen28) fun o=>match o with
 | none=>
  M.pure (.done c29)
 | some j30=>
  M.bind (M.idx m1 (Int.ofNat j30)) fun kv34=>
  M.bind (M.det (runs_Norm kv34.2)) fun v36=>
  cond ((decide (0 < ((List.length v36):Int))))
   (M.need ((List.length c29 + List.length ([(⟨kv34.1,v36⟩:TPart)])) * 32 ≤ 140737488355328) <|
   M.pure (.next (((seen28 ++ [j30]),(c29 ++ [(⟨kv34.1,v36⟩:TPart)])))))
   (M.pure (.next ((seen28 ++ [j30]),c29)))
def ctx_order (m1:List (Int × List TRun)):M (List TPart):=
 M.bind (M.loop (ctx_order_l0 m1) ([],([]:List TPart))) (fun c3=>
 M.need (List.length c3 < 4611686018427387904)<|M.bind (M.srt ltPart c3) fun s41=>
 M.pure s41)

def ctx_toldF (p:TPart):Option (Int × List TRun):=if 0 < p.dev then some (p.dev,p.runs) else none
def ctx_told (c1:List TPart):M (List (Int × List TRun)):=
 M.need (AL.growOK 16 (List.length c1) (List.filterMap ctx_toldF c1)) <|
 M.pure ((AL.grow ([]:List (Int × List TRun)) (List.filterMap ctx_toldF c1)))

def ctx_Norm (c1:List TPart):M (List TPart):=
 M.bind (M.det (ctx_told c1)) fun v2=>
 M.bind (M.det (ctx_order v2)) fun v5=>
 M.pure v5

def slices_Clone_sl_Dot_Dot (s1:List TDot):M (List TDot):=
 M.bind (M.isNil s1) fun b2=>
 cond b2
  (M.pure ([]:List TDot))
  (M.need ((List.length ([]:List TDot) + List.length s1) * 16 ≤ 140737488355328) <|
  M.pure (([]:List TDot) ++ s1))

def event_Copy (e1:TEvent):M TEvent:=
 M.bind (M.det (slices_Clone_sl_Dot_Dot e1.kills)) fun v2=>
 M.pure (⟨e1.dot,e1.kind,e1.cid,e1.field,e1.text,v2⟩:TEvent)

def dot_Cmp (a1:TDot) (b2:TDot):M Int:=
 M.bind (M.det (cmp_Compare_uint16 a1.dev b2.dev)) fun v3=>
 cond (!decide (v3 = 0))
  (M.pure v3)
  (M.bind (M.det (cmp_Compare_uint64 a1.n b2.n)) fun v6=>
  M.pure v6)

def dot_Good (d1:TDot):M Bool:=
 M.bind (cond (decide (0 < d1.dev))
  (cond (decide (0 < d1.n))
   (M.pure (decide (d1.n ≤ 281474976710655)))
   (M.pure false))
  (M.pure false)) (fun v2=>
 M.pure v2)

def slices_Compact_sl_Dot_Dot_o_l0 (row1:List TDot) (k148:Int):Int × Int × List TDot → M (M.Step (Int × Int × List TDot) (Int × List TDot)):=fun ⟨k197,k2_198,v199⟩=>
 cond ((decide (k2_198 < ((((List.length row1 - Int.toNat k148):Nat):Int)))))
  (M.bind (M.need ((0:Int) ≤ k2_198 ∧ k2_198 < (((List.length row1 - Int.toNat k148):Nat):Int))<|M.bind (M.idx v199 ((((Int.toNat k148) + Int.toNat k2_198):Nat):Int)) fun x203=>
  M.need ((0:Int) ≤ (IntKind.i64.wrap (k2_198 - 1)) ∧ (IntKind.i64.wrap (k2_198 - 1)) < (((List.length row1 - Int.toNat k148):Nat):Int))<|M.bind (M.idx v199 ((((Int.toNat k148) + Int.toNat (IntKind.i64.wrap (k2_198 - 1))):Nat):Int)) fun x207=>
  cond ((!(decide (x203.dev = x207.dev) && decide (x203.n = x207.n))))
   (M.need ((0:Int) ≤ k2_198 ∧ k2_198 < (((List.length row1 - Int.toNat k148):Nat):Int))<|M.bind (M.idx v199 ((((Int.toNat k148) + Int.toNat k2_198):Nat):Int)) fun x212=>
   M.bind (M.idx v199 k197) fun x216=>
   M.pure (((IntKind.i64.wrap (k197 + 1)),(List.set v199 (Int.toNat k197) x212))))
   (M.pure (k197,v199))) (fun ⟨k201,v202⟩=>
  M.pure (.next ((k201,(IntKind.i64.wrap (k2_198 + 1)),v202)))))
  (M.pure (.done (k197,v199)))
def slices_Compact_sl_Dot_Dot_o_l1 (row1:List TDot):Int → M (M.Step Int (M.Ex Unit (List TDot))):=fun k148=>
 cond ((decide (k148 < ((List.length row1):Int))))
  (M.bind (M.bind (M.idx row1 k148) fun x150=>
  M.bind (M.idx row1 (IntKind.i64.wrap (k148 - 1))) fun x152=>
  cond (((decide (x150.dev = x152.dev) && decide (x150.n = x152.n))))
   (M.need ((0:Int) ≤ k148 ∧ k148 ≤ (List.length row1:Int)) <|
   M.bind (M.loop (slices_Compact_sl_Dot_Dot_o_l0 row1 k148) (k148,1,row1)) (fun ⟨k156,v157⟩=>
   M.need ((0:Int) ≤ k156 ∧ k156 ≤ (List.length v157:Int)) <|
   M.need ((Int.toNat k156) + (List.length v157 - Int.toNat k156) ≤ List.length v157) <|
   M.need ((0:Int) ≤ 0 ∧ (0:Int) ≤ k156 ∧ k156 ≤ (List.length ((List.take (Int.toNat k156) v157 ++ List.replicate (List.length v157 - Int.toNat k156) (⟨0,0⟩:TDot) ++ List.drop ((Int.toNat k156) + (List.length v157 - Int.toNat k156)) v157)):Int)) <|
   M.pure (.ret ((.done ((.ret (((List.take (Int.toNat k156) ((List.take (Int.toNat k156) v157 ++ List.replicate (List.length v157 - Int.toNat k156) (⟨0,0⟩:TDot) ++ List.drop ((Int.toNat k156) + (List.length v157 - Int.toNat k156)) v157))))))))))))
   (M.pure (.brk ()))) (M.exk (fun _=>
  M.pure (.next (IntKind.i64.wrap (k148 + 1))))))
  (M.pure (.done (.brk ())))
def slices_Compact_sl_Dot_Dot_o (row1:List TDot):M (List TDot):=
 cond ((decide (((List.length row1):Int) < 2)))
  (M.pure row1)
  (M.bind (M.loop (slices_Compact_sl_Dot_Dot_o_l1 row1) 1) (M.exk (fun _=>
  M.pure row1)))

def dot_Sort (l1:List TDot):M (List TDot):=
 M.bind (M.det (slices_Clone_sl_Dot_Dot l1)) fun v2=>
 M.need (List.length v2 < 4611686018427387904)<|M.bind (M.srt ltDot v2) fun s4=>
 M.bind (M.det (slices_Compact_sl_Dot_Dot_o s4)) fun y8=>
 M.pure y8

def book_New_o :M (List TPart × Bool × (List (TDot × TEvent)) × Bool × (List (TDot × TEvent))):=
 M.pure ((([]:List TPart),true,([]:List (TDot × TEvent)),true,([]:List (TDot × TEvent))))

def book_Book_Ctx_o (ctx_1:List TPart) (nl2:Bool) (m3:List (TDot × TEvent)) (nl4:Bool) (m5:List (TDot × TEvent)):M (List TPart):=
 M.bind (M.det (ctx_Norm ctx_1)) fun v6=>
 M.pure v6

def book_list2_o_l0 (m2:List (TDot × TEvent)):List Nat × List TEvent → M (M.Step (List Nat × List TEvent) (List TEvent)):=fun ⟨seen32,out33⟩=>
 M.need (∀ i ∈ seen32,i < List.length m2)<|M.bind (M.nxt (List.length m2) seen32) fun o=>match o with
 | none=>
  M.pure (.done out33)
 | some j34=>
  M.bind (M.idx m2 (Int.ofNat j34)) fun kv38=>
  M.bind (M.det (event_Copy kv38.2)) fun v40=>
  M.need ((List.length out33 + List.length ([v40])) * 80 ≤ 140737488355328) <|
  M.pure (.next ((seen32 ++ [j34]),(out33 ++ [v40])))
def book_list2_o_l1 (m4:List (TDot × TEvent)):List Nat × List TEvent → M (M.Step (List Nat × List TEvent) (List TEvent)):=fun ⟨seen70,out71⟩=>
 M.need (∀ i ∈ seen70,i < List.length m4)<|M.bind (M.nxt (List.length m4) seen70) fun o=>match o with
 | none=>
  M.pure (.done out71)
 | some j72=>
  M.bind (M.idx m4 (Int.ofNat j72)) fun kv76=>
  M.bind (M.det (event_Copy kv76.2)) fun v78=>
  M.need ((List.length out71 + List.length ([v78])) * 80 ≤ 140737488355328) <|
  M.pure (.next ((seen70 ++ [j72]),(out71 ++ [v78])))
def book_list2_o (nl1:Bool) (m2:List (TDot × TEvent)) (nl3:Bool) (m4:List (TDot × TEvent)):M (List TEvent):=
 M.bind (M.bind (M.loop (book_list2_o_l0 m2) ([],([]:List TEvent))) (fun out8=>
 M.bind (M.loop (book_list2_o_l1 m4) ([],out8)) (fun out46=>
 M.pure out46))) (fun out5=>
 M.need (List.length out5 < 4611686018427387904)<|M.bind (M.srt ltEvent out5) fun s82=>
 M.pure s82)

def book_Book_All_o (ctx_1:List TPart) (nl2:Bool) (m3:List (TDot × TEvent)) (nl4:Bool) (m5:List (TDot × TEvent)):M (List TEvent):=
 M.bind (M.det (book_list2_o nl2 m3 nl4 m5)) fun y6=>
 M.pure y6

def r07_Has_l0 (l1:List TDot) (d2:TDot):Int → M (M.Step Int (M.Ex Unit Bool)):=fun i12=>
 cond ((decide (i12 < (List.length l1:Int))))
  (M.bind (M.idx l1 i12) fun x14=>
  cond (((decide (x14.dev = d2.dev) && decide (x14.n = d2.n))))
   (M.pure (.done (.ret true)))
   (M.pure (.next (IntKind.i64.wrap (i12 + 1)))))
  (M.pure (.done (.brk ())))
def r07_Has (l1:List TDot) (d2:TDot):M Bool:=
 M.bind (M.loop (r07_Has_l0 l1 d2) 0) (M.exk (fun _=>
 M.pure false))

def r07_Good (d1:TDot):M Bool:=
 M.bind (cond (decide (1 ≤ d1.dev))
  (cond (decide (1 ≤ d1.n))
   (M.pure (decide (d1.n < 281474976710656)))
   (M.pure false))
  (M.pure false)) (fun v2=>
 M.pure v2)

def r01_Split (v1:Int):M (Int × Int):=
 M.pure (((IntKind.u16.wrap (IntKind.u64.wrap (Int.tdiv v1 281474976710656))),(Int.tmod v1 281474976710656)))

def r07_Unpack (v1:Int):M (TDot × Bool):=
 M.bind (M.det (r01_Split v1)) fun v2=>
 M.bind (M.det (r07_Good (⟨v2.1,v2.2⟩:TDot))) fun v4=>
 cond (!v4)
  (M.pure ((⟨0,0⟩:TDot),false))
  (M.pure ((⟨v2.1,v2.2⟩:TDot),true))

def r11_Good (f1:Int):M Bool:=
 M.bind (cond (decide (1 ≤ f1))
  (M.pure (decide (f1 ≤ 5)))
  (M.pure false)) (fun v2=>
 M.pure v2)

def r11_Text_l0 (s1:ByteArray):Int → M (M.Step Int (M.Ex Unit Bool)):=fun i19=>
 cond ((decide (i19 < (ByteArray.size s1:Int))))
  (M.bind (M.bind (M.idx (bytesL s1) i19) fun b22=>
  cond (decide (b22 < 32))
   (M.pure true)
   (M.bind (M.idx (bytesL s1) i19) fun b25=>
   M.pure (decide (126 < b25)))) (fun v21=>
  cond v21
   (M.pure (.done (.ret false)))
   (M.pure (.next (IntKind.i64.wrap (i19 + 1))))))
  (M.pure (.done (.brk ())))
def r11_Text (s1:ByteArray):M Bool:=
 M.bind (M.loop (r11_Text_l0 s1) 0) (M.exk (fun _=>
 M.pure ((decide ((ByteArray.size s1:Int) ≤ 60)))))

def r07_Cmp (a1:TDot) (b2:TDot):M Int:=
 cond (((decide (a1.dev = b2.dev) && decide (a1.n = b2.n))))
  (M.pure 0)
  (M.bind (cond (decide (a1.dev < b2.dev))
   (M.pure true)
   (cond (decide (a1.dev = b2.dev))
    (M.pure (decide (a1.n < b2.n)))
    (M.pure false))) (fun v4=>
  cond v4
   (M.pure (-1))
   (M.pure 1)))

def r07_Rising_l0 (l1:List TDot):Int → M (M.Step Int (M.Ex Unit Bool)):=fun i19=>
 cond ((decide (i19 < (List.length l1:Int))))
  (M.bind (M.idx l1 (IntKind.i64.wrap (i19 - 1))) fun x21=>
  M.bind (M.idx l1 i19) fun x23=>
  M.bind (M.det (r07_Cmp x21 x23)) fun v25=>
  cond (decide (0 ≤ v25))
   (M.pure (.done (.ret false)))
   (M.pure (.next (IntKind.i64.wrap (i19 + 1)))))
  (M.pure (.done (.brk ())))
def r07_Rising (l1:List TDot):M Bool:=
 M.bind (M.loop (r07_Rising_l0 l1) 1) (M.exk (fun _=>
 M.pure true))

def r13_Good_l0 (e1:TEvent):Int → M (M.Step Int (M.Ex Unit Bool)):=fun i37=>
 cond ((decide (i37 < (List.length e1.kills:Int))))
  (M.bind (M.idx e1.kills i37) fun x39=>
  M.bind (M.det (r07_Good x39)) fun v41=>
  cond (!v41)
   (M.pure (.done (.ret false)))
   (M.pure (.next (IntKind.i64.wrap (i37 + 1)))))
  (M.pure (.done (.brk ())))
def r13_Good (e1:TEvent):M Bool:=
 M.bind (M.det (r07_Unpack e1.cid)) fun v2=>
 M.bind (cond (!v2.2)
  (M.pure true)
  (M.bind (M.det (r07_Good e1.dot)) fun v6=>
  cond (!v6)
   (M.pure true)
   (cond (!decide (e1.kind = 1))
    (M.pure (!decide (e1.kind = 2)))
    (M.pure false)))) (fun v4=>
 cond v4
  (M.pure false)
  (M.bind (cond (decide (e1.kind = 1))
   (M.bind (M.det (r11_Good e1.field)) fun v13=>
   cond (!v13)
    (M.pure true)
    (M.bind (M.det (r11_Text e1.text)) fun v16=>
    cond (!v16)
     (M.pure true)
     (cond (decide (e1.kind = 2))
      (cond (!decide (e1.field = 0))
       (M.pure true)
       (M.pure ((!decide (e1.text = (⟨#[]⟩:ByteArray))))))
      (M.pure false))))
   (cond (decide (e1.kind = 2))
    (cond (!decide (e1.field = 0))
     (M.pure true)
     (M.pure ((!decide (e1.text = (⟨#[]⟩:ByteArray))))))
    (M.pure false))) (fun v11=>
  cond v11
   (M.pure false)
   (M.bind (M.loop (r13_Good_l0 e1) 0) (M.exk (fun _=>
   M.bind (cond ((decide ((List.length e1.kills:Int) ≤ 256)))
    (M.bind (M.det (r07_Rising e1.kills)) fun v46=>
    cond v46
     (M.bind (M.det (r07_Has e1.kills e1.dot)) fun v49=>
     M.pure (!v49))
     (M.pure false))
    (M.pure false)) (fun v44=>
   M.pure v44)))))))

def r06_may (x1:TRun):M Bool:=
 M.bind (cond (decide (1 ≤ x1.lo))
  (cond (decide (x1.lo ≤ x1.hi))
   (M.pure (decide (x1.hi ≤ 281474976710655)))
   (M.pure false))
  (M.pure false)) (fun v2=>
 M.pure v2)

def r06_Has_l0 (l1:List TRun) (n2:Int):Int → M (M.Step Int (M.Ex Unit Bool)):=fun i30=>
 cond ((decide (i30 < (List.length l1:Int))))
  (M.bind (M.bind (M.idx l1 i30) fun x33=>
  M.bind (M.det (r06_may x33)) fun v35=>
  cond v35
   (M.bind (M.idx l1 i30) fun x38=>
   cond (decide (x38.lo ≤ n2))
    (M.bind (M.idx l1 i30) fun x41=>
    M.pure (decide (n2 ≤ x41.hi)))
    (M.pure false))
   (M.pure false)) (fun v32=>
  cond v32
   (M.pure (.done (.ret true)))
   (M.pure (.next (IntKind.i64.wrap (i30 + 1))))))
  (M.pure (.done (.brk ())))
def r06_Has (l1:List TRun) (n2:Int):M Bool:=
 M.bind (M.loop (r06_Has_l0 l1 n2) 0) (M.exk (fun _=>
 M.pure false))

def r06_put_l0 (l1:List Int) (n2:Int):Bool × Int × List Int → M (M.Step (Bool × Int × List Int) (Bool × List Int)):=fun ⟨done43,i44,out45⟩=>
 cond ((decide (i44 < (List.length l1:Int))))
  (M.bind (M.bind (cond (!done43)
   (M.bind (M.idx l1 i44) fun x51=>
   M.pure (decide (n2 ≤ x51)))
   (M.pure false)) (fun v49=>
  M.bind (cond v49
   (M.need ((List.length out45 + List.length ([n2])) * 8 ≤ 140737488355328) <|
   M.pure (true,(out45 ++ [n2])))
   (M.pure (done43,out45))) (fun ⟨done53,out54⟩=>
  M.bind (M.idx l1 i44) fun x57=>
  cond (!decide (x57 = n2))
   (M.bind (M.idx l1 i44) fun x60=>
   M.need ((List.length out54 + List.length ([x60])) * 8 ≤ 140737488355328) <|
   M.pure (done53,(out54 ++ [x60])))
   (M.pure (done53,out54))))) (fun ⟨done47,out48⟩=>
  M.pure (.next ((done47,(IntKind.i64.wrap (i44 + 1)),out48)))))
  (M.pure (.done (done43,out45)))
def r06_put (l1:List Int) (n2:Int):M (List Int):=
 M.bind (M.loop (r06_put_l0 l1 n2) (false,0,([]:List Int))) (fun ⟨done3,out4⟩=>
 M.bind (cond (!done3)
  (M.need ((List.length out4 + List.length ([n2])) * 8 ≤ 140737488355328) <|
  M.pure (out4 ++ [n2]))
  (M.pure out4)) (fun out63=>
 M.pure out63))

def r06_points_l0 (a1:List TRun) (b2:List TRun):List Int × Int → M (M.Step (List Int × Int) (List Int)):=fun ⟨out38,i39⟩=>
 cond ((decide (i39 < (((List.length ((([]:List TRun) ++ a1) ++ b2)):Int)))))
  (M.bind (M.bind (M.idx (((([]:List TRun) ++ a1) ++ b2)) i39) fun x42=>
  M.bind (M.det (r06_may x42)) fun v44=>
  cond v44
   (M.bind (M.idx (((([]:List TRun) ++ a1) ++ b2)) i39) fun x47=>
   M.bind (M.det (r06_put out38 x47.lo)) fun v49=>
   M.bind (M.idx (((([]:List TRun) ++ a1) ++ b2)) i39) fun x51=>
   M.bind (M.det (r06_put v49 (IntKind.u64.wrap (x51.hi + 1)))) fun v53=>
   M.pure v53)
   (M.pure out38)) (fun out41=>
  M.pure (.next ((out41,(IntKind.i64.wrap (i39 + 1)))))))
  (M.pure (.done out38))
def r06_points (a1:List TRun) (b2:List TRun):M (List Int):=
 M.need ((List.length ([]:List TRun) + List.length a1) * 16 ≤ 140737488355328) <|
 M.need ((List.length (([]:List TRun) ++ a1) + List.length b2) * 16 ≤ 140737488355328) <|
 M.bind (M.loop (r06_points_l0 a1 b2) (([]:List Int),0)) (fun out5=>
 M.pure out5)

def r06_set_l0 (v4:List Int) (a1:List TRun) (b2:List TRun) (how3:Int):Int × List TRun → M (M.Step (Int × List TRun) (List TRun)):=fun ⟨i85,out86⟩=>
 cond ((decide ((IntKind.i64.wrap (i85 + 1)) < (List.length v4:Int))))
  (M.bind (M.bind (M.idx v4 i85) fun x89=>
  M.bind (M.det (r06_Has a1 x89)) fun v91=>
  M.bind (M.idx v4 i85) fun x93=>
  M.bind (M.det (r06_Has b2 x93)) fun v95=>
  M.bind (cond v91
   (M.pure true)
   (M.pure v95)) (fun in97=>
  M.bind (cond (decide (how3 = 1))
   (M.bind (cond v91
    (M.pure v95)
    (M.pure false)) (fun in101=>
   M.pure in101))
   (M.pure in97)) (fun in99=>
  M.bind (cond (decide (how3 = 2))
   (M.bind (cond v91
    (M.pure (!v95))
    (M.pure false)) (fun in105=>
   M.pure in105))
   (M.pure in99)) (fun in103=>
  M.bind (cond in103
   (cond ((decide (0 ≤ ((IntKind.i64.wrap (((List.length out86):Int) - 1))))))
    (M.bind (M.idx out86 ((IntKind.i64.wrap (((List.length out86):Int) - 1)))) fun x110=>
    M.bind (M.idx v4 i85) fun x112=>
    M.pure ((decide ((IntKind.u64.wrap (x110.hi + 1)) = x112))))
    (M.pure false))
   (M.pure false)) (fun v107=>
  cond v107
   (M.bind (M.idx v4 (IntKind.i64.wrap (i85 + 1))) fun x115=>
   M.bind (M.idx out86 ((IntKind.i64.wrap (((List.length out86):Int) - 1)))) fun x117=>
   M.pure ((List.set out86 ((Int.toNat ((IntKind.i64.wrap (((List.length out86):Int) - 1))))) ((⟨x117.lo,(IntKind.u64.wrap (x115 - 1))⟩:TRun)))))
   (cond in103
    (M.bind (M.idx v4 i85) fun x120=>
    M.bind (M.idx v4 (IntKind.i64.wrap (i85 + 1))) fun x122=>
    M.need ((List.length out86 + List.length ([(⟨x120,(IntKind.u64.wrap (x122 - 1))⟩:TRun)])) * 16 ≤ 140737488355328) <|
    M.pure ((out86 ++ [(⟨x120,(IntKind.u64.wrap (x122 - 1))⟩:TRun)])))
    (M.pure out86))))))) (fun out88=>
  M.pure (.next (((IntKind.i64.wrap (i85 + 1)),out88)))))
  (M.pure (.done out86))
def r06_set (a1:List TRun) (b2:List TRun) (how3:Int):M (List TRun):=
 M.bind (M.det (r06_points a1 b2)) fun v4=>
 M.bind (M.loop (r06_set_l0 v4 a1 b2 how3) (0,([]:List TRun))) (fun out6=>
 M.pure out6)

def r06_Join (a1:List TRun) (b2:List TRun):M (List TRun):=
 M.bind (M.det (r06_set a1 b2 0)) fun v3=>
 M.pure v3

def r09_Runs_l0 (c1:List TPart) (dev2:Int):List TRun × Int → M (M.Step (List TRun × Int) (List TRun)):=fun ⟨out28,i29⟩=>
 cond ((decide (i29 < (List.length c1:Int))))
  (M.bind (M.bind (M.bind (M.idx c1 i29) fun x33=>
  cond (decide (x33.dev = dev2))
   (M.pure (!decide (dev2 = 0)))
   (M.pure false)) (fun v32=>
  cond v32
   (M.bind (M.idx c1 i29) fun x37=>
   M.bind (M.det (r06_Join out28 x37.runs)) fun v39=>
   M.pure v39)
   (M.pure out28))) (fun out31=>
  M.pure (.next ((out31,(IntKind.i64.wrap (i29 + 1)))))))
  (M.pure (.done out28))
def r09_Runs (c1:List TPart) (dev2:Int):M (List TRun):=
 M.bind (M.loop (r09_Runs_l0 c1 dev2) (([]:List TRun),0)) (fun out3=>
 M.pure out3)

def r09_Has (c1:List TPart) (d2:TDot):M Bool:=
 M.bind (M.bind (M.det (r07_Good d2)) fun v4=>
 cond v4
  (M.bind (M.det (r09_Runs c1 d2.dev)) fun v7=>
  M.bind (M.det (r06_Has v7 d2.n)) fun v9=>
  M.pure v9)
  (M.pure false)) (fun v3=>
 M.pure v3)

def r07_Put_l0 (l1:List TDot) (d2:TDot):Int × List TDot → M (M.Step (Int × List TDot) (List TDot)):=fun ⟨i26,out27⟩=>
 cond ((decide (i26 < (List.length l1:Int))))
  (M.bind (M.bind (M.idx l1 i26) fun x30=>
  M.bind (M.det (r07_Cmp x30 d2)) fun v32=>
  cond (decide (v32 < 0))
   (M.bind (M.idx l1 i26) fun x35=>
   M.need ((List.length out27 + List.length ([x35])) * 16 ≤ 140737488355328) <|
   M.pure (out27 ++ [x35]))
   (M.pure out27)) (fun out29=>
  M.pure (.next (((IntKind.i64.wrap (i26 + 1)),out29)))))
  (M.pure (.done out27))
def r07_Put_l1 (l1:List TDot) (d2:TDot):Int × List TDot → M (M.Step (Int × List TDot) (List TDot)):=fun ⟨i62,out63⟩=>
 cond ((decide (i62 < (List.length l1:Int))))
  (M.bind (M.bind (M.idx l1 i62) fun x66=>
  M.bind (M.det (r07_Cmp x66 d2)) fun v68=>
  cond (decide (0 < v68))
   (M.bind (M.idx l1 i62) fun x71=>
   M.need ((List.length out63 + List.length ([x71])) * 16 ≤ 140737488355328) <|
   M.pure (out63 ++ [x71]))
   (M.pure out63)) (fun out65=>
  M.pure (.next (((IntKind.i64.wrap (i62 + 1)),out65)))))
  (M.pure (.done out63))
def r07_Put (l1:List TDot) (d2:TDot):M (List TDot):=
 M.bind (M.loop (r07_Put_l0 l1 d2) (0,([]:List TDot))) (fun out3=>
 M.need ((List.length out3 + List.length ([d2])) * 16 ≤ 140737488355328) <|
 M.bind (M.loop (r07_Put_l1 l1 d2) (0,(out3 ++ [d2]))) (fun out39=>
 M.pure out39))

def r09_devs_l0 (a1:List TPart):List TDot × Int → M (M.Step (List TDot × Int) (List TDot)):=fun ⟨out16,i17⟩=>
 cond ((decide (i17 < (List.length a1:Int))))
  (M.bind (M.idx a1 i17) fun x19=>
  M.bind (M.det (r07_Put out16 (⟨x19.dev,1⟩:TDot))) fun v21=>
  M.pure (.next ((v21,(IntKind.i64.wrap (i17 + 1))))))
  (M.pure (.done out16))
def r09_devs_l1 (b2:List TPart):List TDot × Int → M (M.Step (List TDot × Int) (List TDot)):=fun ⟨out36,i37⟩=>
 cond ((decide (i37 < (List.length b2:Int))))
  (M.bind (M.idx b2 i37) fun x39=>
  M.bind (M.det (r07_Put out36 (⟨x39.dev,1⟩:TDot))) fun v41=>
  M.pure (.next ((v41,(IntKind.i64.wrap (i37 + 1))))))
  (M.pure (.done out36))
def r09_devs (a1:List TPart) (b2:List TPart):M (List TDot):=
 M.bind (M.loop (r09_devs_l0 a1) (([]:List TDot),0)) (fun out3=>
 M.bind (M.loop (r09_devs_l1 b2) (out3,0)) (fun out23=>
 M.pure out23))

def r06_Meet (a1:List TRun) (b2:List TRun):M (List TRun):=
 M.bind (M.det (r06_set a1 b2 1)) fun v3=>
 M.pure v3

def r06_Minus (a1:List TRun) (b2:List TRun):M (List TRun):=
 M.bind (M.det (r06_set a1 b2 2)) fun v3=>
 M.pure v3

def r09_set_l0 (v4:List TDot) (a1:List TPart) (b2:List TPart) (how3:Int):Int × List TPart → M (M.Step (Int × List TPart) (List TPart)):=fun ⟨i57,out58⟩=>
 cond ((decide (i57 < (List.length v4:Int))))
  (M.bind (M.bind (M.idx v4 i57) fun x61=>
  M.bind (M.det (r09_Runs a1 x61.dev)) fun v63=>
  M.bind (M.idx v4 i57) fun x65=>
  M.bind (M.det (r09_Runs b2 x65.dev)) fun v67=>
  M.bind (M.det (r06_Join v63 v67)) fun v69=>
  M.bind (cond (decide (how3 = 1))
   (M.bind (M.det (r06_Meet v63 v67)) fun v73=>
   M.pure v73)
   (M.pure v69)) (fun z71=>
  M.bind (cond (decide (how3 = 2))
   (M.bind (M.det (r06_Minus v63 v67)) fun v77=>
   M.pure v77)
   (M.pure z71)) (fun z75=>
  cond ((decide (0 < (List.length z75:Int))))
   (M.bind (M.idx v4 i57) fun x80=>
   M.need ((List.length out58 + List.length ([(⟨x80.dev,z75⟩:TPart)])) * 32 ≤ 140737488355328) <|
   M.pure (out58 ++ [(⟨x80.dev,z75⟩:TPart)]))
   (M.pure out58)))) (fun out60=>
  M.pure (.next (((IntKind.i64.wrap (i57 + 1)),out60)))))
  (M.pure (.done out58))
def r09_set (a1:List TPart) (b2:List TPart) (how3:Int):M (List TPart):=
 M.bind (M.det (r09_devs a1 b2)) fun v4=>
 M.bind (M.loop (r09_set_l0 v4 a1 b2 how3) (0,([]:List TPart))) (fun out6=>
 M.pure out6)

def r09_Join (a1:List TPart) (b2:List TPart):M (List TPart):=
 M.bind (M.det (r09_set a1 b2 0)) fun v3=>
 M.pure v3

def r09_Of_l0 (l1:List TDot):List TPart × Int → M (M.Step (List TPart × Int) (List TPart)):=fun ⟨out35,i36⟩=>
 cond ((decide (i36 < (List.length l1:Int))))
  (M.bind (M.bind (M.idx l1 i36) fun x39=>
  M.bind (M.det (r07_Good x39)) fun v41=>
  cond v41
   (M.bind (M.idx l1 i36) fun x44=>
   M.bind (M.idx l1 i36) fun x46=>
   M.bind (M.idx l1 i36) fun x48=>
   M.bind (M.det (r09_Join out35 ([(⟨x44.dev,[(⟨x46.n,x48.n⟩:TRun)]⟩:TPart)]))) fun v50=>
   M.pure v50)
   (M.pure out35)) (fun out38=>
  M.pure (.next ((out38,(IntKind.i64.wrap (i36 + 1)))))))
  (M.pure (.done out35))
def r09_Of (l1:List TDot):M (List TPart):=
 M.bind (M.loop (r09_Of_l0 l1) (([]:List TPart),0)) (fun out2=>
 M.pure out2)

def r13_Put_l0 (l1:List TEvent) (e2:TEvent):Bool × Int × List TEvent → M (M.Step (Bool × Int × List TEvent) (M.Ex (Bool × List TEvent) (List TEvent))):=fun ⟨done38,i39,out40⟩=>
 cond ((decide (i39 < (List.length l1:Int))))
  (M.bind (M.idx l1 i39) fun x42=>
  M.bind (M.det (r07_Cmp x42.dot e2.dot)) fun v44=>
  cond (decide (v44 = 0))
   (M.pure (.done (.ret l1)))
   (M.bind (cond (decide (0 < v44))
    (M.pure (!done38))
    (M.pure false)) (fun v47=>
   M.bind (cond v47
    (M.need ((List.length out40 + List.length ([e2])) * 80 ≤ 140737488355328) <|
    M.pure (true,(out40 ++ [e2])))
    (M.pure (done38,out40))) (fun ⟨done49,out50⟩=>
   M.bind (M.idx l1 i39) fun x53=>
   M.need ((List.length out50 + List.length ([x53])) * 80 ≤ 140737488355328) <|
   M.pure (.next ((done49,(IntKind.i64.wrap (i39 + 1)),(out50 ++ [x53]))))))))
  (M.pure (.done (.brk (done38,out40))))
def r13_Put (l1:List TEvent) (e2:TEvent):M (List TEvent):=
 M.bind (M.loop (r13_Put_l0 l1 e2) (false,0,([]:List TEvent))) (M.exk (fun ⟨done3,out4⟩=>
 M.bind (cond (!done3)
  (M.need ((List.length out4 + List.length ([e2])) * 80 ≤ 140737488355328) <|
  M.pure (out4 ++ [e2]))
  (M.pure out4)) (fun out56=>
 M.pure out56)))

def r13_Dots_l0 (l1:List TEvent) (i80:Int):List TDot × Int → M (M.Step (List TDot × Int) (List TDot)):=fun ⟨out107,k108⟩=>
 M.bind (M.idx l1 i80) fun x109=>
 cond ((decide (k108 < (List.length x109.kills:Int))))
  (M.bind (M.idx l1 i80) fun x112=>
  M.bind (M.idx x112.kills k108) fun x114=>
  M.bind (M.det (r07_Put out107 x114)) fun v116=>
  M.pure (.next ((v116,(IntKind.i64.wrap (k108 + 1))))))
  (M.pure (.done out107))
def r13_Dots_l1 (l1:List TEvent):List TDot × Int → M (M.Step (List TDot × Int) (List TDot)):=fun ⟨out79,i80⟩=>
 cond ((decide (i80 < (List.length l1:Int))))
  (M.bind (M.bind (M.idx l1 i80) fun x83=>
  M.bind (M.det (r07_Put out79 x83.dot)) fun v85=>
  M.loop (r13_Dots_l0 l1 i80) (v85,0)) (fun out82=>
  M.pure (.next ((out82,(IntKind.i64.wrap (i80 + 1)))))))
  (M.pure (.done out79))
def r13_Dots (l1:List TEvent):M (List TDot):=
 M.bind (M.loop (r13_Dots_l1 l1) (([]:List TDot),0)) (fun out2=>
 M.pure out2)

def r18_Put_l0 (b1:R18Book) (e2:TEvent):Int × List TEvent → M (M.Step (Int × List TEvent) (List TEvent)):=fun ⟨i40,l41⟩=>
 cond ((decide (i40 < (List.length b1.l:Int))))
  (M.bind (M.bind (M.bind (M.idx b1.l i40) fun x45=>
  cond (!decide (x45.kind = 1))
   (M.pure true)
   (M.bind (M.idx b1.l i40) fun x48=>
   M.bind (M.det (r07_Has e2.kills x48.dot)) fun v50=>
   M.pure (!v50))) (fun v44=>
  cond v44
   (M.bind (M.idx b1.l i40) fun x53=>
   M.need ((List.length l41 + List.length ([x53])) * 80 ≤ 140737488355328) <|
   M.pure (l41 ++ [x53]))
   (M.pure l41))) (fun l43=>
  M.pure (.next (((IntKind.i64.wrap (i40 + 1)),l43)))))
  (M.pure (.done l41))
def r18_Put (b1:R18Book) (e2:TEvent):M (R18Book × Int):=
 M.bind (M.det (r13_Good e2)) fun v3=>
 cond (!v3)
  (M.pure (b1,1))
  (M.bind (M.det (r09_Has b1.ctx e2.dot)) fun v6=>
  cond v6
   (M.pure (b1,7))
   (M.bind (M.loop (r18_Put_l0 b1 e2) (0,([]:List TEvent))) (fun l9=>
   M.bind (M.det (r13_Dots ([e2]))) fun v56=>
   M.bind (M.det (r09_Of v56)) fun v58=>
   M.bind (M.det (r09_Join b1.ctx v58)) fun v60=>
   M.bind (M.det (r13_Put l9 e2)) fun v62=>
   M.pure ((⟨v60,v62⟩:R18Book),0))))

def r17_Delete_l0 (l1:List TEvent) (cid2:Int):Int × List TEvent → M (M.Step (Int × List TEvent) (List TEvent)):=fun ⟨i30,some31⟩=>
 cond ((decide (i30 < (List.length l1:Int))))
  (M.bind (M.bind (M.bind (M.idx l1 i30) fun x35=>
  cond (decide (x35.kind = 1))
   (M.bind (M.idx l1 i30) fun x38=>
   M.pure (decide (x38.cid = cid2)))
   (M.pure false)) (fun v34=>
  cond v34
   (M.bind (M.idx l1 i30) fun x41=>
   M.need ((List.length some31 + List.length ([x41])) * 80 ≤ 140737488355328) <|
   M.pure (some31 ++ [x41]))
   (M.pure some31))) (fun some33=>
  M.pure (.next (((IntKind.i64.wrap (i30 + 1)),some33)))))
  (M.pure (.done some31))
def r17_Delete (l1:List TEvent) (cid2:Int):M (List TDot):=
 M.bind (M.loop (r17_Delete_l0 l1 cid2) (0,([]:List TEvent))) (fun some3=>
 M.bind (M.det (r13_Dots some3)) fun v44=>
 M.pure v44)

def r18_kind_l0 (l1:List TEvent) (k2:Int):Int × List TEvent → M (M.Step (Int × List TEvent) (List TEvent)):=fun ⟨i22,out23⟩=>
 cond ((decide (i22 < (List.length l1:Int))))
  (M.bind (M.bind (M.idx l1 i22) fun x26=>
  cond (decide (x26.kind = k2))
   (M.bind (M.idx l1 i22) fun x29=>
   M.need ((List.length out23 + List.length ([x29])) * 80 ≤ 140737488355328) <|
   M.pure (out23 ++ [x29]))
   (M.pure out23)) (fun out25=>
  M.pure (.next (((IntKind.i64.wrap (i22 + 1)),out25)))))
  (M.pure (.done out23))
def r18_kind (l1:List TEvent) (k2:Int):M (List TEvent):=
 M.bind (M.loop (r18_kind_l0 l1 k2) (0,([]:List TEvent))) (fun out3=>
 M.pure out3)

def r18_Live (b1:R18Book):M (List TEvent):=
 M.bind (M.det (r18_kind b1.l 1)) fun v2=>
 M.pure v2

def r17_Edit_l0 (l1:List TEvent) (cid2:Int) (f3:Int):Int × List TEvent → M (M.Step (Int × List TEvent) (List TEvent)):=fun ⟨i37,some38⟩=>
 cond ((decide (i37 < (List.length l1:Int))))
  (M.bind (M.bind (M.bind (M.idx l1 i37) fun x42=>
  cond (decide (x42.kind = 1))
   (M.bind (M.idx l1 i37) fun x45=>
   cond (decide (x45.cid = cid2))
    (M.bind (M.idx l1 i37) fun x48=>
    M.pure (decide (x48.field = f3)))
    (M.pure false))
   (M.pure false)) (fun v41=>
  cond v41
   (M.bind (M.idx l1 i37) fun x51=>
   M.need ((List.length some38 + List.length ([x51])) * 80 ≤ 140737488355328) <|
   M.pure (some38 ++ [x51]))
   (M.pure some38))) (fun some40=>
  M.pure (.next (((IntKind.i64.wrap (i37 + 1)),some40)))))
  (M.pure (.done some38))
def r17_Edit (l1:List TEvent) (cid2:Int) (f3:Int):M (List TDot):=
 M.bind (M.loop (r17_Edit_l0 l1 cid2 f3) (0,([]:List TEvent))) (fun some4=>
 M.bind (M.det (r13_Dots some4)) fun v54=>
 M.pure v54)

def r18_Make (b1:R18Book) (e2:TEvent):M (TEvent × Int):=
 M.bind (M.det (r13_Good (⟨e2.dot,e2.kind,e2.cid,e2.field,e2.text,([]:List TDot)⟩:TEvent))) fun v3=>
 cond (!v3)
  (M.pure (((⟨(⟨0,0⟩:TDot),0,0,0,(⟨#[]⟩:ByteArray),([]:List TDot)⟩:TEvent),1)))
  (M.bind (M.det (r09_Has b1.ctx e2.dot)) fun v6=>
  cond v6
   (M.pure (((⟨(⟨0,0⟩:TDot),0,0,0,(⟨#[]⟩:ByteArray),([]:List TDot)⟩:TEvent),7)))
   (M.bind (M.det (r18_Live b1)) fun v9=>
   M.bind (M.det (r17_Delete v9 e2.cid)) fun v11=>
   M.bind (cond (decide (e2.kind = 1))
    (M.bind (M.det (r18_Live b1)) fun v15=>
    M.bind (M.det (r17_Edit v15 e2.cid e2.field)) fun v17=>
    M.pure v17)
    (M.pure v11)) (fun e13=>
   cond ((decide (256 < (List.length e13:Int))))
    (M.pure (((⟨(⟨0,0⟩:TDot),0,0,0,(⟨#[]⟩:ByteArray),([]:List TDot)⟩:TEvent),3)))
    (M.pure ((⟨e2.dot,e2.kind,e2.cid,e2.field,e2.text,e13⟩:TEvent),0)))))

def r18_See (b1:R18Book) (c2:List TPart):M R18Book:=
 M.bind (M.det (r09_Join b1.ctx c2)) fun v3=>
 M.pure (⟨v3,b1.l⟩:R18Book)

def r17_Strip (e1:TEvent) (c2:List TPart):M TEvent:=
 M.bind (M.det (r09_Has c2 e1.dot)) fun v3=>
 M.bind (cond v3
  (M.pure ([]:List TDot))
  (M.pure e1.kills)) (fun e5=>
 M.pure (⟨e1.dot,e1.kind,e1.cid,e1.field,e1.text,e5⟩:TEvent))

def r18_Prune_l0 (b1:R18Book) (c2:List TPart):Int × List TEvent → M (M.Step (Int × List TEvent) (List TEvent)):=fun ⟨i38,l39⟩=>
 cond ((decide (i38 < (List.length b1.l:Int))))
  (M.bind (M.bind (M.bind (M.idx b1.l i38) fun x43=>
  cond (decide (x43.kind = 1))
   (M.pure true)
   (M.bind (M.idx b1.l i38) fun x46=>
   M.bind (M.det (r09_Has c2 x46.dot)) fun v48=>
   M.pure (!v48))) (fun v42=>
  cond v42
   (M.bind (M.idx b1.l i38) fun x51=>
   M.bind (M.det (r17_Strip x51 c2)) fun v53=>
   M.need ((List.length l39 + List.length ([v53])) * 80 ≤ 140737488355328) <|
   M.pure (l39 ++ [v53]))
   (M.pure l39))) (fun l41=>
  M.pure (.next (((IntKind.i64.wrap (i38 + 1)),l41)))))
  (M.pure (.done l39))
def r18_Prune (b1:R18Book) (c2:List TPart):M (R18Book × Int):=
 M.bind (M.loop (r18_Prune_l0 b1 c2) (0,([]:List TEvent))) (fun l3=>
 M.pure (((⟨b1.ctx,l3⟩:R18Book),(IntKind.i64.wrap ((List.length b1.l:Int) - (List.length l3:Int))))))

def shift_Split (v1:Int):M (Int × Int):=
 M.pure (((IntKind.u16.wrap (Int.fdiv v1 (2 ^ 48))),(bAnd .u64 v1 281474976710655)))

def dot_Unpack (v1:Int):M (TDot × Bool):=
 M.bind (M.det (shift_Split v1)) fun v2=>
 M.bind (M.det (dot_Good (⟨v2.1,v2.2⟩:TDot))) fun v4=>
 cond (!v4)
  (M.pure ((⟨0,0⟩:TDot),false))
  (M.pure ((⟨v2.1,v2.2⟩:TDot),true))

def field_Good (f1:Int):M Bool:=
 M.bind (cond (decide (1 ≤ f1))
  (M.pure (decide (f1 ≤ 5)))
  (M.pure false)) (fun v2=>
 M.pure v2)

def field_Text_l0 (s1:ByteArray):Int → M (M.Step Int (M.Ex Unit Bool)):=fun v20=>
 cond ((decide (v20 < (ByteArray.size s1:Int))))
  (M.bind (M.bind (M.idx (bytesL s1) v20) fun b23=>
  cond (decide (b23 < 32))
   (M.pure true)
   (M.bind (M.idx (bytesL s1) v20) fun b26=>
   M.pure (decide (126 < b26)))) (fun v22=>
  cond v22
   (M.pure (.done (.ret false)))
   (M.pure (.next (IntKind.i64.wrap (v20 + 1))))))
  (M.pure (.done (.brk ())))
def field_Text (s1:ByteArray):M Bool:=
 cond ((decide (60 < (ByteArray.size s1:Int))))
  (M.pure false)
  (M.bind (M.loop (field_Text_l0 s1) 0) (M.exk (fun _=>
  M.pure true)))

def dot_Rising_l0 (l1:List TDot):Int → M (M.Step Int (M.Ex Unit Bool)):=fun v23=>
 cond ((decide (v23 < (List.length l1:Int))))
  (M.bind (cond (decide (0 < v23))
   (M.bind (M.idx l1 (IntKind.i64.wrap (v23 - 1))) fun x27=>
   M.bind (M.idx l1 v23) fun x29=>
   M.bind (M.det (dot_Cmp x27 x29)) fun v31=>
   M.pure (decide (0 ≤ v31)))
   (M.pure false)) (fun v25=>
  cond v25
   (M.pure (.done (.ret false)))
   (M.pure (.next (IntKind.i64.wrap (v23 + 1))))))
  (M.pure (.done (.brk ())))
def dot_Rising (l1:List TDot):M Bool:=
 M.bind (M.loop (dot_Rising_l0 l1) 0) (M.exk (fun _=>
 M.pure true))

def event_Good_l0 (e1:TEvent):Int → M (M.Step Int (M.Ex Unit Bool)):=fun v43=>
 cond ((decide (v43 < (List.length e1.kills:Int))))
  (M.bind (M.idx e1.kills v43) fun x45=>
  M.bind (M.bind (M.det (dot_Good x45)) fun v48=>
  cond (!v48)
   (M.pure true)
   (M.pure (((decide (x45.dev = e1.dot.dev) && decide (x45.n = e1.dot.n)))))) (fun v47=>
  cond v47
   (M.pure (.done (.ret false)))
   (M.pure (.next (IntKind.i64.wrap (v43 + 1))))))
  (M.pure (.done (.brk ())))
def event_Good (e1:TEvent):M Bool:=
 M.bind (M.det (dot_Unpack e1.cid)) fun v2=>
 M.bind (cond (!v2.2)
  (M.pure true)
  (M.bind (M.det (dot_Good e1.dot)) fun v6=>
  M.pure (!v6))) (fun v4=>
 cond v4
  (M.pure false)
  (M.bind (cond (decide (e1.kind = 1))
   (M.bind (M.bind (M.det (field_Good e1.field)) fun v11=>
   cond (!v11)
    (M.pure true)
    (M.bind (M.det (field_Text e1.text)) fun v14=>
    M.pure (!v14))) (fun v10=>
   cond v10
    (M.pure (.ret false))
    (M.pure (.brk ()))))
   (cond (decide (e1.kind = 2))
    (M.bind (cond (!decide (e1.field = 0))
     (M.pure true)
     (M.pure ((!decide (e1.text = (⟨#[]⟩:ByteArray)))))) (fun v18=>
    cond v18
     (M.pure (.ret false))
     (M.pure (.brk ()))))
    (M.pure (.ret false)))) (M.exk (fun _=>
  M.bind (cond ((decide (256 < (List.length e1.kills:Int))))
   (M.pure true)
   (M.bind (M.det (dot_Rising e1.kills)) fun v23=>
   M.pure (!v23))) (fun v21=>
  cond v21
   (M.pure false)
   (M.bind (M.loop (event_Good_l0 e1) 0) (M.exk (fun _=>
   M.pure true))))))))

def event_Dots_l0 (l1:List TEvent):Int × List TDot → M (M.Step (Int × List TDot) (List TDot)):=fun ⟨v15,out16⟩=>
 cond ((decide (v15 < (List.length l1:Int))))
  (M.bind (M.idx l1 v15) fun x18=>
  M.need ((List.length out16 + List.length ([x18.dot])) * 16 ≤ 140737488355328) <|
  M.need ((List.length (out16 ++ [x18.dot]) + List.length x18.kills) * 16 ≤ 140737488355328) <|
  M.pure (.next (((IntKind.i64.wrap (v15 + 1)),((out16 ++ [x18.dot]) ++ x18.kills)))))
  (M.pure (.done out16))
def event_Dots (l1:List TEvent):M (List TDot):=
 M.bind (M.loop (event_Dots_l0 l1) (0,([]:List TDot))) (fun out2=>
 M.bind (M.det (dot_Sort out2)) fun v22=>
 M.pure v22)

def slices_Equal_sl_Run_Run_l0 (s1_1:List TRun) (s2_2:List TRun):Int → M (M.Step Int (M.Ex Unit Bool)):=fun v17=>
 cond ((decide (v17 < (List.length s1_1:Int))))
  (M.bind (M.idx s1_1 v17) fun x19=>
  M.bind (M.idx s2_2 v17) fun x21=>
  cond ((!(decide (x19.lo = x21.lo) && decide (x19.hi = x21.hi))))
   (M.pure (.done (.ret false)))
   (M.pure (.next (IntKind.i64.wrap (v17 + 1)))))
  (M.pure (.done (.brk ())))
def slices_Equal_sl_Run_Run (s1_1:List TRun) (s2_2:List TRun):M Bool:=
 cond ((!decide ((List.length s1_1:Int) = (List.length s2_2:Int))))
  (M.pure false)
  (M.bind (M.loop (slices_Equal_sl_Run_Run_l0 s1_1 s2_2) 0) (M.exk (fun _=>
  M.pure true)))

def ctx_eq_c1 (x1:TPart) (y2:TPart):M Bool:=
 M.bind (cond (decide (x1.dev = y2.dev))
  (M.bind (M.det (slices_Equal_sl_Run_Run x1.runs y2.runs)) fun v5=>
  M.pure v5)
  (M.pure false)) (fun v3=>
 M.pure v3)

def slices_EqualFunc_Ctx_Ctx_Part_Part_ctx_eq_c1_l0 (s1_1:List TPart) (s2_2:List TPart):Int → M (M.Step Int (M.Ex Unit Bool)):=fun v21=>
 cond ((decide (v21 < (List.length s1_1:Int))))
  (M.bind (M.idx s1_1 v21) fun x23=>
  M.bind (M.idx s2_2 v21) fun x25=>
  M.bind (M.det (ctx_eq_c1 x23 x25)) fun v27=>
  cond (!v27)
   (M.pure (.done (.ret false)))
   (M.pure (.next (IntKind.i64.wrap (v21 + 1)))))
  (M.pure (.done (.brk ())))
def slices_EqualFunc_Ctx_Ctx_Part_Part_ctx_eq_c1 (s1_1:List TPart) (s2_2:List TPart):M Bool:=
 cond ((!decide ((List.length s1_1:Int) = (List.length s2_2:Int))))
  (M.pure false)
  (M.bind (M.loop (slices_EqualFunc_Ctx_Ctx_Part_Part_ctx_eq_c1_l0 s1_1 s2_2) 0) (M.exk (fun _=>
  M.pure true)))

def ctx_eq (a1:List TPart) (b2:List TPart):M Bool:=
 M.bind (M.det (slices_EqualFunc_Ctx_Ctx_Part_Part_ctx_eq_c1 a1 b2)) fun v3=>
 M.pure v3

def ctx_Good (c1:List TPart):M Bool:=
 M.bind (M.det (ctx_Norm c1)) fun v2=>
 M.bind (M.det (ctx_eq c1 v2)) fun v4=>
 M.pure v4

def slices_Index_sl_Dot_Dot_l0 (s1:List TDot) (v2:TDot):Int → M (M.Step Int (M.Ex Unit Int)):=fun v12=>
 cond ((decide (v12 < (List.length s1:Int))))
  (M.bind (M.idx s1 v12) fun x14=>
  cond (((decide (v2.dev = x14.dev) && decide (v2.n = x14.n))))
   (M.pure (.done (.ret v12)))
   (M.pure (.next (IntKind.i64.wrap (v12 + 1)))))
  (M.pure (.done (.brk ())))
def slices_Index_sl_Dot_Dot (s1:List TDot) (v2:TDot):M Int:=
 M.bind (M.loop (slices_Index_sl_Dot_Dot_l0 s1 v2) 0) (M.exk (fun _=>
 M.pure (-1)))

def slices_Contains_sl_Dot_Dot (s1:List TDot) (v2:TDot):M Bool:=
 M.bind (M.det (slices_Index_sl_Dot_Dot s1 v2)) fun v3=>
 M.pure (decide (0 ≤ v3))

def dot_Has (l1:List TDot) (d2:TDot):M Bool:=
 M.bind (M.det (slices_Contains_sl_Dot_Dot l1 d2)) fun v3=>
 M.pure v3

def runs_Has_c1 (x1:TRun) (n2:Int):M Int:=
 M.bind (M.det (cmp_Compare_uint64 x1.hi n2)) fun v3=>
 M.pure v3

def slices_BinarySearchFunc_sl_Run_Run_uint64_runs_Has_c1_l0 (x1:List TRun) (target2:Int):Int × Int → M (M.Step (Int × Int) Int):=fun ⟨i18,j19⟩=>
 cond (decide (i18 < j19))
  (M.bind (M.idx x1 ((IntKind.i64.wrap ((Int.fdiv ((IntKind.u64.wrap (IntKind.i64.wrap (i18 + j19)))) (2 ^ 1)))))) fun x21=>
  M.bind (M.det (runs_Has_c1 x21 target2)) fun v23=>
  cond (decide (v23 < 0))
   (M.pure (.next (((IntKind.i64.wrap (((IntKind.i64.wrap ((Int.fdiv ((IntKind.u64.wrap (IntKind.i64.wrap (i18 + j19)))) (2 ^ 1))))) + 1)),j19))))
   (M.pure (.next ((i18,(IntKind.i64.wrap ((Int.fdiv ((IntKind.u64.wrap (IntKind.i64.wrap (i18 + j19)))) (2 ^ 1)))))))))
  (M.pure (.done i18))
def slices_BinarySearchFunc_sl_Run_Run_uint64_runs_Has_c1 (x1:List TRun) (target2:Int):M (Int × Bool):=
 M.bind (M.loop (slices_BinarySearchFunc_sl_Run_Run_uint64_runs_Has_c1_l0 x1 target2) (0,(List.length x1:Int))) (fun i3=>
 M.bind (cond ((decide (i3 < (List.length x1:Int))))
  (M.bind (M.idx x1 i3) fun x28=>
  M.bind (M.det (runs_Has_c1 x28 target2)) fun v30=>
  M.pure (decide (v30 = 0)))
  (M.pure false)) (fun v26=>
 M.pure (i3,v26)))

def runs_Has (l1:List TRun) (n2:Int):M Bool:=
 M.bind (M.det (runs_Norm l1)) fun v3=>
 M.bind (M.det (slices_BinarySearchFunc_sl_Run_Run_uint64_runs_Has_c1 v3 n2)) fun v5=>
 M.bind (cond ((decide (v5.1 < (List.length v3:Int))))
  (M.bind (M.idx v3 v5.1) fun x9=>
  M.pure (decide (x9.lo ≤ n2)))
  (M.pure false)) (fun v7=>
 M.pure v7)

def ctx_Runs (c1:List TPart) (dev2:Int):M (List TRun):=
 M.bind (M.det (ctx_told c1)) fun v3=>
 M.bind (M.det (runs_Norm (AL.getZ v3 dev2 ([]:List TRun)))) fun v6=>
 M.pure v6

def ctx_Has (c1:List TPart) (d2:TDot):M Bool:=
 M.bind (cond (decide (0 < d2.dev))
  (M.bind (M.det (ctx_Runs c1 d2.dev)) fun v5=>
  M.bind (M.det (runs_Has v5 d2.n)) fun v7=>
  M.pure v7)
  (M.pure false)) (fun v3=>
 M.pure v3)

def r09_Norm (c1:List TPart):M (List TPart):=
 M.bind (M.det (r09_set c1 ([]:List TPart) 0)) fun v2=>
 M.pure v2

def r01_Len_l0 :Int × Int → M (M.Step (Int × Int) Int):=fun ⟨v7,n8⟩=>
 cond (decide (0 < v7))
  (M.pure (.next (((IntKind.u64.wrap (Int.tdiv v7 256)),(IntKind.i64.wrap (n8 + 1))))))
  (M.pure (.done n8))
def r01_Len (v1:Int):M Int:=
 M.bind (M.loop r01_Len_l0 (v1,0)) (fun n2=>
 M.pure n2)

def r01_Byte_l0 (i2:Int):Int × Int → M (M.Step (Int × Int) Int):=fun ⟨v11,k12⟩=>
 cond (decide (k12 < i2))
  (M.pure (.next (((IntKind.u64.wrap (Int.tdiv v11 256)),(IntKind.i64.wrap (k12 + 1))))))
  (M.pure (.done v11))
def r01_Byte (v1:Int) (i2:Int):M Int:=
 M.bind (cond (decide (i2 < 0))
  (M.pure true)
  (M.pure (decide (7 < i2)))) (fun v3=>
 cond v3
  (M.pure 0)
  (M.bind (M.loop (r01_Byte_l0 i2) (v1,0)) (fun v6=>
  M.pure (IntKind.u8.wrap (Int.tmod v6 256)))))

def r03_Append_l0 (v2:Int):Int × List Int → M (M.Step (Int × List Int) (List Int)):=fun ⟨i18,v19⟩=>
 cond (decide (0 ≤ i18))
  (M.bind (M.det (r01_Byte v2 i18)) fun v21=>
  M.need ((List.length v19 + List.length ([v21])) * 1 ≤ 140737488355328) <|
  M.pure (.next (((IntKind.i64.wrap (i18 - 1)),(v19 ++ [v21])))))
  (M.pure (.done v19))
def r03_Append (b1:List Int) (v2:Int):M (List Int):=
 M.need ((List.length ([]:List Int) + List.length b1) * 1 ≤ 140737488355328) <|
 M.bind (M.det (r01_Len v2)) fun v4=>
 M.need ((List.length (([]:List Int) ++ b1) + List.length ([(IntKind.u8.wrap v4)])) * 1 ≤ 140737488355328) <|
 M.bind (M.loop (r03_Append_l0 v2) (((IntKind.i64.wrap (v4 - 1)),((([]:List Int) ++ b1) ++ [(IntKind.u8.wrap v4)])))) (fun v7=>
 M.pure v7)

def r15_PutDot (b1:List Int) (d2:TDot):M (List Int):=
 M.bind (M.det (r03_Append b1 (IntKind.u64.wrap d2.dev))) fun v3=>
 M.bind (M.det (r03_Append v3 d2.n)) fun v5=>
 M.pure v5

def r04_Text_l0 (s2:ByteArray):Int × List Int → M (M.Step (Int × List Int) (List Int)):=fun ⟨i16,v17⟩=>
 cond ((decide (i16 < (ByteArray.size s2:Int))))
  (M.bind (M.idx (bytesL s2) i16) fun b19=>
  M.need ((List.length v17 + List.length ([b19])) * 1 ≤ 140737488355328) <|
  M.pure (.next (((IntKind.i64.wrap (i16 + 1)),(v17 ++ [b19])))))
  (M.pure (.done v17))
def r04_Text (b1:List Int) (s2:ByteArray):M (List Int):=
 M.bind (M.det (r03_Append b1 (IntKind.u64.wrap (ByteArray.size s2:Int)))) fun v3=>
 M.bind (M.loop (r04_Text_l0 s2) (0,v3)) (fun v5=>
 M.pure v5)

def r15_PutDots_l0 (l2:List TDot):List TDot × Int → M (M.Step (List TDot × Int) (List TDot)):=fun ⟨some28,i29⟩=>
 cond ((decide (i29 < (List.length l2:Int))))
  (M.bind (M.bind (M.idx l2 i29) fun x32=>
  M.bind (M.det (r07_Good x32)) fun v34=>
  cond v34
   (M.bind (M.idx l2 i29) fun x37=>
   M.bind (M.det (r07_Put some28 x37)) fun v39=>
   M.pure v39)
   (M.pure some28)) (fun some31=>
  M.pure (.next ((some31,(IntKind.i64.wrap (i29 + 1)))))))
  (M.pure (.done some28))
def r15_PutDots_l1 (some3:List TDot):List Int × Int → M (M.Step (List Int × Int) (List Int)):=fun ⟨out56,i57⟩=>
 cond ((decide (i57 < (List.length some3:Int))))
  (M.bind (M.idx some3 i57) fun x59=>
  M.bind (M.det (r15_PutDot out56 x59)) fun v61=>
  M.pure (.next ((v61,(IntKind.i64.wrap (i57 + 1))))))
  (M.pure (.done out56))
def r15_PutDots (b1:List Int) (l2:List TDot):M (List Int):=
 M.bind (M.loop (r15_PutDots_l0 l2) (([]:List TDot),0)) (fun some3=>
 M.bind (M.det (r03_Append b1 (IntKind.u64.wrap (List.length some3:Int)))) fun v41=>
 M.bind (M.loop (r15_PutDots_l1 some3) (v41,0)) (fun out43=>
 M.pure out43))

def r16_Put (b1:List Int) (e2:TEvent):M (List Int):=
 M.bind (M.det (r15_PutDot b1 e2.dot)) fun v3=>
 M.need ((List.length v3 + List.length ([e2.kind])) * 1 ≤ 140737488355328) <|
 M.bind (M.det (r03_Append (v3 ++ [e2.kind]) e2.cid)) fun v6=>
 M.need ((List.length v6 + List.length ([e2.field])) * 1 ≤ 140737488355328) <|
 M.bind (M.det (r04_Text (v6 ++ [e2.field]) e2.text)) fun v9=>
 M.bind (M.det (r15_PutDots v9 e2.kills)) fun v11=>
 M.pure v11

def book_add_o (e1:TEvent) (nl2:Bool) (m3:List (TDot × TEvent)):M (Bool × (List (TDot × TEvent))):=
 M.bind (cond nl2
  (M.pure ([]:List (TDot × TEvent)))
  (M.pure m3)) (fun v4=>
 M.bind (M.det (event_Copy e1)) fun v9=>
 M.pure (false,(AL.set v4 e1.dot v9)))

def r06_Eq_l0 (a1:List TRun) (b2:List TRun):Int → M (M.Step Int (M.Ex Unit Bool)):=fun i17=>
 cond ((decide (i17 < (List.length a1:Int))))
  (M.bind (M.idx a1 i17) fun x19=>
  M.bind (M.idx b2 i17) fun x21=>
  cond ((!(decide (x19.lo = x21.lo) && decide (x19.hi = x21.hi))))
   (M.pure (.done (.ret false)))
   (M.pure (.next (IntKind.i64.wrap (i17 + 1)))))
  (M.pure (.done (.brk ())))
def r06_Eq (a1:List TRun) (b2:List TRun):M Bool:=
 cond ((!decide ((List.length a1:Int) = (List.length b2:Int))))
  (M.pure false)
  (M.bind (M.loop (r06_Eq_l0 a1 b2) 0) (M.exk (fun _=>
  M.pure true)))

def r09_Eq_l0 (a1:List TPart) (b2:List TPart):Int → M (M.Step Int (M.Ex Unit Bool)):=fun i33=>
 cond ((decide (i33 < (List.length a1:Int))))
  (M.bind (M.bind (M.idx a1 i33) fun x36=>
  M.bind (M.idx b2 i33) fun x38=>
  cond (!decide (x36.dev = x38.dev))
   (M.pure true)
   (M.bind (M.idx a1 i33) fun x41=>
   M.bind (M.idx b2 i33) fun x43=>
   M.bind (M.det (r06_Eq x41.runs x43.runs)) fun v45=>
   M.pure (!v45))) (fun v35=>
  cond v35
   (M.pure (.done (.ret false)))
   (M.pure (.next (IntKind.i64.wrap (i33 + 1))))))
  (M.pure (.done (.brk ())))
def r09_Eq (a1:List TPart) (b2:List TPart):M Bool:=
 cond ((!decide ((List.length a1:Int) = (List.length b2:Int))))
  (M.pure false)
  (M.bind (M.loop (r09_Eq_l0 a1 b2) 0) (M.exk (fun _=>
  M.pure true)))

def r07_Same_l0 (a1:List TDot) (b2:List TDot):Int → M (M.Step Int (M.Ex Unit Bool)):=fun i17=>
 cond ((decide (i17 < (List.length a1:Int))))
  (M.bind (M.idx a1 i17) fun x19=>
  M.bind (M.idx b2 i17) fun x21=>
  cond ((!(decide (x19.dev = x21.dev) && decide (x19.n = x21.n))))
   (M.pure (.done (.ret false)))
   (M.pure (.next (IntKind.i64.wrap (i17 + 1)))))
  (M.pure (.done (.brk ())))
def r07_Same (a1:List TDot) (b2:List TDot):M Bool:=
 cond ((!decide ((List.length a1:Int) = (List.length b2:Int))))
  (M.pure false)
  (M.bind (M.loop (r07_Same_l0 a1 b2) 0) (M.exk (fun _=>
  M.pure true)))

def r13_Same (a1:TEvent) (b2:TEvent):M Bool:=
 M.bind (cond (((decide (a1.dot.dev = b2.dot.dev) && decide (a1.dot.n = b2.dot.n))))
  (cond (decide (a1.kind = b2.kind))
   (cond (decide (a1.cid = b2.cid))
    (cond (decide (a1.field = b2.field))
     (cond (decide (a1.text = b2.text))
      (M.bind (M.det (r07_Same a1.kills b2.kills)) fun v9=>
      M.pure v9)
      (M.pure false))
     (M.pure false))
    (M.pure false))
   (M.pure false))
  (M.pure false)) (fun v3=>
 M.pure v3)

def r13_All_l0 (a1:List TEvent) (b2:List TEvent):Int → M (M.Step Int (M.Ex Unit Bool)):=fun i21=>
 cond ((decide (i21 < (List.length a1:Int))))
  (M.bind (M.idx a1 i21) fun x23=>
  M.bind (M.idx b2 i21) fun x25=>
  M.bind (M.det (r13_Same x23 x25)) fun v27=>
  cond (!v27)
   (M.pure (.done (.ret false)))
   (M.pure (.next (IntKind.i64.wrap (i21 + 1)))))
  (M.pure (.done (.brk ())))
def r13_All (a1:List TEvent) (b2:List TEvent):M Bool:=
 cond ((!decide ((List.length a1:Int) = (List.length b2:Int))))
  (M.pure false)
  (M.bind (M.loop (r13_All_l0 a1 b2) 0) (M.exk (fun _=>
  M.pure true)))

def dot_GoodB (d:TDot):Bool:=decide (0 < d.dev) && (decide (0 < d.n) && decide (d.n ≤ 281474976710655))
theorem dot_GoodB_eq (d:TDot):dot_Good d = M.pure (dot_GoodB d):=by
 unfold dot_Good dot_GoodB;rw [M.cond_pure_and,M.cond_pure_and];rfl
def ctx_OfF (d:TDot):Option (Int × List TRun):=if dot_GoodB d then some (d.dev,[⟨d.n,d.n⟩]) else none
def ctx_Of (l1:List TDot):M (List TPart):=
 M.need (AL.growOK 16 (List.length l1) (List.filterMap ctx_OfF l1)) <|
 M.bind (M.det (ctx_order ((AL.grow ([]:List (Int × List TRun)) (List.filterMap ctx_OfF l1))))) fun v17=>
 M.pure v17

def slices_Grow_Ctx_Part_nil (n1:Int):M (List TPart):=
 cond (decide (n1 < 0))
  M.fail
  (M.bind (cond ((decide (0 < ((IntKind.i64.wrap (n1 - (IntKind.i64.wrap (0 - 0))))))))
   (M.need (0 < ((IntKind.i64.wrap (n1 - (IntKind.i64.wrap (0 - 0))))) ∧ ((IntKind.i64.wrap (n1 - (IntKind.i64.wrap (0 - 0))))) * 32 ≤ 140737488355328) <|
   M.need ((0:Int) ≤ 0 ∧ (0:Int) ≤ 0 ∧ 0 ≤ (List.length ((List.replicate (Int.toNat ((IntKind.i64.wrap (n1 - (IntKind.i64.wrap (0 - 0)))))) (⟨0,([]:List TRun)⟩:TPart))):Int)) <|
   M.pure ((List.take (Int.toNat 0) ((List.replicate (Int.toNat ((IntKind.i64.wrap (n1 - (IntKind.i64.wrap (0 - 0)))))) (⟨0,([]:List TRun)⟩:TPart))))))
   (M.pure ([]))) (fun v3=>
  M.pure v3))

def slices_Concat_Ctx_Part_l0 (slices1:List (List TPart)):Int × Int → M (M.Step (Int × Int) Int):=fun ⟨size13,v14⟩=>
 cond ((decide (v14 < (List.length slices1:Int))))
  (M.bind (M.idx slices1 v14) fun x16=>
  cond ((decide (((IntKind.i64.wrap (size13 + (List.length x16:Int)))) < 0)))
   M.fail
   (M.pure (.next (((IntKind.i64.wrap (size13 + (List.length x16:Int))),(IntKind.i64.wrap (v14 + 1)))))))
  (M.pure (.done size13))
def slices_Concat_Ctx_Part_l1 (slices1:List (List TPart)):Int × List TPart → M (M.Step (Int × List TPart) (List TPart)):=fun ⟨v32,v33⟩=>
 cond ((decide (v32 < (List.length slices1:Int))))
  (M.bind (M.idx slices1 v32) fun x35=>
  M.need ((List.length v33 + List.length x35) * 32 ≤ 140737488355328) <|
  M.pure (.next (((IntKind.i64.wrap (v32 + 1)),(v33 ++ x35)))))
  (M.pure (.done v33))
def slices_Concat_Ctx_Part (slices1:List (List TPart)):M (List TPart):=
 M.bind (M.loop (slices_Concat_Ctx_Part_l0 slices1) (0,0)) (fun size2=>
 M.bind (M.det (slices_Grow_Ctx_Part_nil size2)) fun v19=>
 M.bind (M.loop (slices_Concat_Ctx_Part_l1 slices1) (0,v19)) (fun v21=>
 M.pure v21))

def ctx_Join (a1:List TPart) (b2:List TPart):M (List TPart):=
 M.bind (M.det (slices_Concat_Ctx_Part ([a1,b2]))) fun v3=>
 M.bind (M.det (ctx_Norm v3)) fun v5=>
 M.pure v5

def ctx_Add (c1:List TPart) (l2:List TDot):M (List TPart):=
 M.bind (M.det (ctx_Of l2)) fun v3=>
 M.bind (M.det (ctx_Join c1 v3)) fun v5=>
 M.pure v5

def kills_Edit_c1_cl (e1:TEvent) (cv2:Int) (cv3:Int):M Bool:=
 M.bind (cond (decide (e1.cid = cv2))
  (M.pure (decide (e1.field = cv3)))
  (M.pure false)) (fun v4=>
 M.pure v4)

def kills_of_kills_Edit_c1_l0 (l1:List TEvent) (cv2:Int) (cv3:Int):Int × List TEvent → M (M.Step (Int × List TEvent) (List TEvent)):=fun ⟨v27,some28⟩=>
 cond ((decide (v27 < (List.length l1:Int))))
  (M.bind (M.bind (M.idx l1 v27) fun x31=>
  M.bind (cond (decide (x31.kind = 1))
   (M.bind (M.det (kills_Edit_c1_cl x31 cv2 cv3)) fun v35=>
   M.pure v35)
   (M.pure false)) (fun v33=>
  cond v33
   (M.need ((List.length some28 + List.length ([x31])) * 80 ≤ 140737488355328) <|
   M.pure (some28 ++ [x31]))
   (M.pure some28))) (fun some30=>
  M.pure (.next (((IntKind.i64.wrap (v27 + 1)),some30)))))
  (M.pure (.done some28))
def kills_of_kills_Edit_c1 (l1:List TEvent) (cv2:Int) (cv3:Int):M (List TDot):=
 M.bind (M.loop (kills_of_kills_Edit_c1_l0 l1 cv2 cv3) (0,([]:List TEvent))) (fun some4=>
 M.bind (M.det (event_Dots some4)) fun v39=>
 M.pure v39)

def kills_Edit (l1:List TEvent) (cid2:Int) (f3:Int):M (List TDot):=
 M.bind (M.det (kills_of_kills_Edit_c1 l1 cid2 f3)) fun v4=>
 M.pure v4

def kills_Delete_c1_cl (e1:TEvent) (cv2:Int):M Bool:=
 M.pure (decide (e1.cid = cv2))

def kills_of_kills_Delete_c1_l0 (l1:List TEvent) (cv2:Int):Int × List TEvent → M (M.Step (Int × List TEvent) (List TEvent)):=fun ⟨v26,some27⟩=>
 cond ((decide (v26 < (List.length l1:Int))))
  (M.bind (M.bind (M.idx l1 v26) fun x30=>
  M.bind (cond (decide (x30.kind = 1))
   (M.bind (M.det (kills_Delete_c1_cl x30 cv2)) fun v34=>
   M.pure v34)
   (M.pure false)) (fun v32=>
  cond v32
   (M.need ((List.length some27 + List.length ([x30])) * 80 ≤ 140737488355328) <|
   M.pure (some27 ++ [x30]))
   (M.pure some27))) (fun some29=>
  M.pure (.next (((IntKind.i64.wrap (v26 + 1)),some29)))))
  (M.pure (.done some27))
def kills_of_kills_Delete_c1 (l1:List TEvent) (cv2:Int):M (List TDot):=
 M.bind (M.loop (kills_of_kills_Delete_c1_l0 l1 cv2) (0,([]:List TEvent))) (fun some3=>
 M.bind (M.det (event_Dots some3)) fun v38=>
 M.pure v38)

def kills_Delete (l1:List TEvent) (cid2:Int):M (List TDot):=
 M.bind (M.det (kills_of_kills_Delete_c1 l1 cid2)) fun v3=>
 M.pure v3

def kills_Strip (e1:TEvent) (c2:List TPart):M TEvent:=
 M.bind (M.det (event_Copy e1)) fun v3=>
 M.bind (M.det (ctx_Has c2 v3.dot)) fun v5=>
 M.bind (cond v5
  (M.pure ([]:List TDot))
  (M.pure v3.kills)) (fun e7=>
 M.pure (⟨v3.dot,v3.kind,v3.cid,v3.field,v3.text,e7⟩:TEvent))

def book_list1_o_l0 (m2:List (TDot × TEvent)):List Nat × List TEvent → M (M.Step (List Nat × List TEvent) (List TEvent)):=fun ⟨seen30,out31⟩=>
 M.need (∀ i ∈ seen30,i < List.length m2)<|M.bind (M.nxt (List.length m2) seen30) fun o=>match o with
 | none=>
  M.pure (.done out31)
 | some j32=>
  M.bind (M.idx m2 (Int.ofNat j32)) fun kv36=>
  M.bind (M.det (event_Copy kv36.2)) fun v38=>
  M.need ((List.length out31 + List.length ([v38])) * 80 ≤ 140737488355328) <|
  M.pure (.next ((seen30 ++ [j32]),(out31 ++ [v38])))
def book_list1_o (nl1:Bool) (m2:List (TDot × TEvent)):M (List TEvent):=
 M.bind (M.bind (M.loop (book_list1_o_l0 m2) ([],([]:List TEvent))) (fun out6=>
 M.pure out6)) (fun out3=>
 M.need (List.length out3 < 4611686018427387904)<|M.bind (M.srt ltEvent out3) fun s42=>
 M.pure s42)

def book_Book_Live_o (ctx_1:List TPart) (nl2:Bool) (m3:List (TDot × TEvent)) (nl4:Bool) (m5:List (TDot × TEvent)):M (List TEvent):=
 M.bind (M.det (book_list1_o nl2 m3)) fun y6=>
 M.pure y6

def book_Book_Make_o (e1:TEvent) (ctx_2:List TPart) (nl3:Bool) (m4:List (TDot × TEvent)) (nl5:Bool) (m6:List (TDot × TEvent)):M (TEvent × Int):=
 M.bind (M.bind (M.det (event_Good (⟨e1.dot,e1.kind,e1.cid,e1.field,e1.text,([]:List TDot)⟩:TEvent))) fun v8=>
 cond (!v8)
  (M.pure (.ret ((((⟨(⟨0,0⟩:TDot),0,0,0,(⟨#[]⟩:ByteArray),([]:List TDot)⟩:TEvent),1)))))
  (M.bind (M.det (ctx_Has ctx_2 e1.dot)) fun v11=>
  cond v11
   (M.pure (.ret ((((⟨(⟨0,0⟩:TDot),0,0,0,(⟨#[]⟩:ByteArray),([]:List TDot)⟩:TEvent),7)))))
   (cond (decide (e1.kind = 1))
    (M.bind (M.det (book_Book_Live_o ctx_2 nl3 m4 nl5 m6)) fun y15=>
    M.bind (M.det (kills_Edit y15 e1.cid e1.field)) fun v17=>
    M.pure (.brk v17))
    (M.bind (M.det (book_Book_Live_o ctx_2 nl3 m4 nl5 m6)) fun y19=>
    M.bind (M.det (kills_Delete y19 e1.cid)) fun v21=>
    M.pure (.brk v21))))) (M.exk (fun e7=>
 cond ((decide (256 < (List.length e7:Int))))
  (M.pure (((⟨(⟨0,0⟩:TDot),0,0,0,(⟨#[]⟩:ByteArray),([]:List TDot)⟩:TEvent),3)))
  (M.pure ((⟨e1.dot,e1.kind,e1.cid,e1.field,e1.text,e7⟩:TEvent),0))))

def book_Book_Put_o_l0 (e1:TEvent):Int × (List (TDot × TEvent)) → M (M.Step (Int × (List (TDot × TEvent))) (List (TDot × TEvent))):=fun ⟨v26,v27⟩=>
 cond ((decide (v26 < (List.length e1.kills:Int))))
  (M.bind (M.idx e1.kills v26) fun x29=>
  M.pure (.next (((IntKind.i64.wrap (v26 + 1)),(AL.del v27 x29)))))
  (M.pure (.done v27))
def book_Book_Put_o (e1:TEvent) (ctx_2:List TPart) (nl3:Bool) (m4:List (TDot × TEvent)) (nl5:Bool) (m6:List (TDot × TEvent)):M (Int × List TPart × Bool × (List (TDot × TEvent)) × Bool × (List (TDot × TEvent))):=
 M.bind (M.det (event_Good e1)) fun v7=>
 cond (!v7)
  (M.pure (1,ctx_2,nl3,m4,nl5,m6))
  (M.bind (M.det (ctx_Has ctx_2 e1.dot)) fun v10=>
  cond v10
   (M.pure (7,ctx_2,nl3,m4,nl5,m6))
   (M.bind (M.det (event_Dots ([e1]))) fun v13=>
   M.bind (M.det (ctx_Add ctx_2 v13)) fun v15=>
   M.bind (M.loop (book_Book_Put_o_l0 e1) (0,m4)) (fun v17=>
   M.bind (cond (decide (e1.kind = 1))
    (M.bind (M.det (book_add_o e1 nl3 v17)) fun y36=>
    M.pure (nl5,m6,y36.1,y36.2))
    (M.bind (M.det (book_add_o e1 nl5 m6)) fun y38=>
    M.pure (y38.1,y38.2,nl3,v17))) (fun ⟨nl31,v32,nl33,v34⟩=>
   M.pure (0,v15,nl33,v34,nl31,v32)))))

def book_Book_Tombs_o (ctx_1:List TPart) (nl2:Bool) (m3:List (TDot × TEvent)) (nl4:Bool) (m5:List (TDot × TEvent)):M (List TEvent):=
 M.bind (M.det (book_list1_o nl4 m5)) fun y6=>
 M.pure y6

def book_strip_o_l0 (l1:List TEvent) (c2:List TPart) (nl3:Bool):Int × (List (TDot × TEvent)) → M (M.Step (Int × (List (TDot × TEvent))) (Bool × (List (TDot × TEvent)))):=fun ⟨v23,v24⟩=>
 cond ((decide (v23 < (List.length l1:Int))))
  (M.bind (M.bind (M.idx l1 v23) fun x27=>
  cond (AL.has v24 x27.dot)
   (M.bind (M.det (kills_Strip x27 c2)) fun v30=>
   M.need (AL.has v24 x27.dot = true) <|
   M.pure (AL.set v24 x27.dot v30))
   (M.pure v24)) (fun v26=>
  M.pure (.next (((IntKind.i64.wrap (v23 + 1)),v26)))))
  (M.pure (.done (nl3,v24)))
def book_strip_o (l1:List TEvent) (c2:List TPart) (nl3:Bool) (m4:List (TDot × TEvent)):M (Bool × (List (TDot × TEvent))):=
 M.loop (book_strip_o_l0 l1 c2 nl3) (0,m4)

def book_Book_Prune_o_l0 (y7:List TEvent) (c1:List TPart):Int × Int × (List (TDot × TEvent)) → M (M.Step (Int × Int × (List (TDot × TEvent))) (Int × (List (TDot × TEvent)))):=fun ⟨n30,v31,v32⟩=>
 cond ((decide (v31 < ((List.length y7):Int))))
  (M.bind (M.bind (M.idx y7 v31) fun x36=>
  M.bind (M.det (ctx_Has c1 x36.dot)) fun v38=>
  cond v38
   (M.pure (((IntKind.i64.wrap (n30 + 1)),(AL.del v32 x36.dot))))
   (M.pure (n30,v32))) (fun ⟨n34,v35⟩=>
  M.pure (.next ((n34,(IntKind.i64.wrap (v31 + 1)),v35)))))
  (M.pure (.done (n30,v32)))
def book_Book_Prune_o (c1:List TPart) (ctx_2:List TPart) (nl3:Bool) (m4:List (TDot × TEvent)) (nl5:Bool) (m6:List (TDot × TEvent)):M (Int × Bool × (List (TDot × TEvent)) × Bool × (List (TDot × TEvent))):=
 M.bind (M.det (book_Book_Tombs_o ctx_2 nl3 m4 nl5 m6)) fun y7=>
 M.bind (M.loop (book_Book_Prune_o_l0 y7 c1) (0,0,m6)) (fun ⟨n9,v10⟩=>
 M.bind (M.det (book_Book_Live_o ctx_2 nl3 m4 nl5 v10)) fun y41=>
 M.bind (M.det (book_strip_o y41 c1 nl3 m4)) fun y43=>
 M.pure (n9,y43.1,y43.2,nl5,v10))

def l18_works :M Bool:=
 M.bind (M.det (book_New_o)) fun y1=>
 M.bind (M.det (book_Book_Make_o (⟨(⟨1,1⟩:TDot),1,281474976710657,1,(⟨#[97]⟩:ByteArray),([]:List TDot)⟩:TEvent) y1.1 y1.2.1 y1.2.2.1 y1.2.2.2.1 y1.2.2.2.2)) fun y3=>
 M.bind (M.det (book_Book_Put_o y3.1 y1.1 y1.2.1 y1.2.2.1 y1.2.2.2.1 y1.2.2.2.2)) fun y5=>
 M.bind (M.det (book_Book_Make_o (⟨(⟨1,2⟩:TDot),2,281474976710657,0,(⟨#[]⟩:ByteArray),([]:List TDot)⟩:TEvent) y5.2.1 y5.2.2.1 y5.2.2.2.1 y5.2.2.2.2.1 y5.2.2.2.2.2)) fun y7=>
 M.bind (M.det (book_Book_Put_o y7.1 y5.2.1 y5.2.2.1 y5.2.2.2.1 y5.2.2.2.2.1 y5.2.2.2.2.2)) fun y9=>
 M.bind (cond (!decide (y3.2 = 0))
  (M.pure true)
  (cond (!decide (y5.1 = 0))
   (M.pure true)
   (cond (!decide (y7.2 = 0))
    (M.pure true)
    (cond (!decide (y9.1 = 0))
     (M.pure true)
     (cond ((!decide ((List.length y7.1.kills:Int) = 1)))
      (M.pure true)
      (M.bind (M.det (book_Book_Live_o y9.2.1 y9.2.2.1 y9.2.2.2.1 y9.2.2.2.2.1 y9.2.2.2.2.2)) fun y17=>
      cond ((!decide (((List.length y17):Int) = 0)))
       (M.pure true)
       (M.bind (M.det (book_Book_Tombs_o y9.2.1 y9.2.2.1 y9.2.2.2.1 y9.2.2.2.2.1 y9.2.2.2.2.2)) fun y20=>
       M.pure ((!decide (((List.length y20):Int) = 1)))))))))) (fun v11=>
 cond v11
  (M.pure false)
  (M.bind (M.bind (M.det (r09_Of ([y7.1.dot]))) fun v24=>
  M.bind (M.det (book_Book_Prune_o v24 y9.2.1 y9.2.2.1 y9.2.2.2.1 y9.2.2.2.2.1 y9.2.2.2.2.2)) fun y26=>
  cond (decide (y26.1 = 1))
   (M.bind (M.det (book_Book_All_o y9.2.1 y26.2.1 y26.2.2.1 y26.2.2.2.1 y26.2.2.2.2)) fun y29=>
   cond ((decide ((List.length y29:Int) = 0)))
    (M.bind (M.det (book_Book_Ctx_o y9.2.1 y26.2.1 y26.2.2.1 y26.2.2.2.1 y26.2.2.2.2)) fun y32=>
    M.bind (M.det (r09_Has y32 y3.1.dot)) fun v34=>
    cond v34
     (M.bind (M.det (book_Book_Ctx_o y9.2.1 y26.2.1 y26.2.2.1 y26.2.2.2.1 y26.2.2.2.2)) fun y37=>
     M.bind (M.det (r09_Has y37 y7.1.dot)) fun v39=>
     M.pure v39)
     (M.pure false))
    (M.pure false))
   (M.pure false)) (fun v23=>
  M.pure v23)))

def ctx_Same (a1:List TPart) (b2:List TPart):M Bool:=
 M.bind (M.det (ctx_Norm a1)) fun v3=>
 M.bind (M.det (ctx_Norm b2)) fun v5=>
 M.bind (M.det (ctx_eq v3 v5)) fun v7=>
 M.pure v7

def slices_Equal_sl_Dot_Dot_l0 (s1_1:List TDot) (s2_2:List TDot):Int → M (M.Step Int (M.Ex Unit Bool)):=fun v17=>
 cond ((decide (v17 < (List.length s1_1:Int))))
  (M.bind (M.idx s1_1 v17) fun x19=>
  M.bind (M.idx s2_2 v17) fun x21=>
  cond ((!(decide (x19.dev = x21.dev) && decide (x19.n = x21.n))))
   (M.pure (.done (.ret false)))
   (M.pure (.next (IntKind.i64.wrap (v17 + 1)))))
  (M.pure (.done (.brk ())))
def slices_Equal_sl_Dot_Dot (s1_1:List TDot) (s2_2:List TDot):M Bool:=
 cond ((!decide ((List.length s1_1:Int) = (List.length s2_2:Int))))
  (M.pure false)
  (M.bind (M.loop (slices_Equal_sl_Dot_Dot_l0 s1_1 s2_2) 0) (M.exk (fun _=>
  M.pure true)))

def dot_Same (a1:List TDot) (b2:List TDot):M Bool:=
 M.bind (M.det (slices_Equal_sl_Dot_Dot a1 b2)) fun v3=>
 M.pure v3

def event_Same (a1:TEvent) (b2:TEvent):M Bool:=
 M.bind (cond (((decide (a1.dot.dev = b2.dot.dev) && decide (a1.dot.n = b2.dot.n))))
  (cond (decide (a1.kind = b2.kind))
   (cond (decide (a1.cid = b2.cid))
    (cond (decide (a1.field = b2.field))
     (cond (decide (a1.text = b2.text))
      (M.bind (M.det (dot_Same a1.kills b2.kills)) fun v9=>
      M.pure v9)
      (M.pure false))
     (M.pure false))
    (M.pure false))
   (M.pure false))
  (M.pure false)) (fun v3=>
 M.pure v3)

def slices_EqualFunc_sl_Event_sl_Event_Event_Event_event_Same_l0 (s1_1:List TEvent) (s2_2:List TEvent):Int → M (M.Step Int (M.Ex Unit Bool)):=fun v21=>
 cond ((decide (v21 < (List.length s1_1:Int))))
  (M.bind (M.idx s1_1 v21) fun x23=>
  M.bind (M.idx s2_2 v21) fun x25=>
  M.bind (M.det (event_Same x23 x25)) fun v27=>
  cond (!v27)
   (M.pure (.done (.ret false)))
   (M.pure (.next (IntKind.i64.wrap (v21 + 1)))))
  (M.pure (.done (.brk ())))
def slices_EqualFunc_sl_Event_sl_Event_Event_Event_event_Same (s1_1:List TEvent) (s2_2:List TEvent):M Bool:=
 cond ((!decide ((List.length s1_1:Int) = (List.length s2_2:Int))))
  (M.pure false)
  (M.bind (M.loop (slices_EqualFunc_sl_Event_sl_Event_Event_Event_event_Same_l0 s1_1 s2_2) 0) (M.exk (fun _=>
  M.pure true)))

def event_All (a1:List TEvent) (b2:List TEvent):M Bool:=
 M.bind (M.det (slices_EqualFunc_sl_Event_sl_Event_Event_Event_event_Same a1 b2)) fun v3=>
 M.pure v3

def r18_Tombs (b1:R18Book):M (List TEvent):=
 M.bind (M.det (r18_kind b1.l 2)) fun v2=>
 M.pure v2

def r18_Of_l0 (b1:R18Book) (cid2:Int):Int × List TEvent → M (M.Step (Int × List TEvent) (List TEvent)):=fun ⟨i30,out31⟩=>
 cond ((decide (i30 < (List.length b1.l:Int))))
  (M.bind (M.bind (M.bind (M.idx b1.l i30) fun x35=>
  cond (decide (x35.kind = 1))
   (M.bind (M.idx b1.l i30) fun x38=>
   M.pure (decide (x38.cid = cid2)))
   (M.pure false)) (fun v34=>
  cond v34
   (M.bind (M.idx b1.l i30) fun x41=>
   M.need ((List.length out31 + List.length ([x41])) * 80 ≤ 140737488355328) <|
   M.pure (out31 ++ [x41]))
   (M.pure out31))) (fun out33=>
  M.pure (.next (((IntKind.i64.wrap (i30 + 1)),out33)))))
  (M.pure (.done out31))
def r18_Of (b1:R18Book) (cid2:Int):M (List TEvent):=
 M.bind (M.loop (r18_Of_l0 b1 cid2) (0,([]:List TEvent))) (fun out3=>
 M.pure out3)

def book_Book_See_o (c1:List TPart) (ctx_2:List TPart) (nl3:Bool) (m4:List (TDot × TEvent)) (nl5:Bool) (m6:List (TDot × TEvent)):M (List TPart):=
 M.bind (M.det (ctx_Join ctx_2 c1)) fun v7=>
 M.pure v7

def book_Book_Copy_o_l0 (m3:List (TDot × TEvent)):List Nat × Bool × (List (TDot × TEvent)) → M (M.Step (List Nat × Bool × (List (TDot × TEvent))) (Bool × (List (TDot × TEvent)))):=fun ⟨seen32,nl33,v34⟩=>
 M.need (∀ i ∈ seen32,i < List.length m3)<|M.bind (M.nxt (List.length m3) seen32) fun o=>match o with
 | none=>
  M.pure (.done (nl33,v34))
 | some j35=>
  M.bind (M.idx m3 (Int.ofNat j35)) fun kv39=>
  M.bind (M.det (book_add_o kv39.2 nl33 v34)) fun y41=>
  M.pure (.next ((seen32 ++ [j35]),y41.1,y41.2))
def book_Book_Copy_o_l1 (m5:List (TDot × TEvent)):List Nat × Bool × (List (TDot × TEvent)) → M (M.Step (List Nat × Bool × (List (TDot × TEvent))) (Bool × (List (TDot × TEvent)))):=fun ⟨seen68,nl69,v70⟩=>
 M.need (∀ i ∈ seen68,i < List.length m5)<|M.bind (M.nxt (List.length m5) seen68) fun o=>match o with
 | none=>
  M.pure (.done (nl69,v70))
 | some j71=>
  M.bind (M.idx m5 (Int.ofNat j71)) fun kv75=>
  M.bind (M.det (book_add_o kv75.2 nl69 v70)) fun y77=>
  M.pure (.next ((seen68 ++ [j71]),y77.1,y77.2))
def book_Book_Copy_o (ctx_1:List TPart) (nl2:Bool) (m3:List (TDot × TEvent)) (nl4:Bool) (m5:List (TDot × TEvent)):M (List TPart × Bool × (List (TDot × TEvent)) × Bool × (List (TDot × TEvent))):=
 M.bind (M.det (ctx_Norm ctx_1)) fun v6=>
 M.bind (M.loop (book_Book_Copy_o_l0 m3) (([],true,([]:List (TDot × TEvent))))) (fun ⟨nl9,v10⟩=>
 M.bind (M.loop (book_Book_Copy_o_l1 m5) (([],true,([]:List (TDot × TEvent))))) (fun ⟨nl45,v46⟩=>
 M.pure (v6,nl9,v10,nl45,v46)))

def book_Same_o (ctx_1:List TPart) (ctx_2:List TPart) (nl3:Bool) (m4:List (TDot × TEvent)) (nl5:Bool) (m6:List (TDot × TEvent)) (nl7:Bool) (m8:List (TDot × TEvent)) (nl9:Bool) (m10:List (TDot × TEvent)):M Bool:=
 M.bind (M.bind (M.det (book_Book_Ctx_o ctx_1 nl3 m4 nl5 m6)) fun y12=>
 M.bind (M.det (book_Book_Ctx_o ctx_2 nl7 m8 nl9 m10)) fun y14=>
 M.bind (M.det (ctx_Same y12 y14)) fun v16=>
 cond v16
  (M.bind (M.det (book_Book_All_o ctx_1 nl3 m4 nl5 m6)) fun y19=>
  M.bind (M.det (book_Book_All_o ctx_2 nl7 m8 nl9 m10)) fun y21=>
  M.bind (M.det (event_All y19 y21)) fun v23=>
  M.pure v23)
  (M.pure false)) (fun v11=>
 M.pure v11)

def l18_Is_o (x1:R18Book) (ctx_2:List TPart) (nl3:Bool) (m4:List (TDot × TEvent)) (nl5:Bool) (m6:List (TDot × TEvent)):M Int:=
 M.bind (M.bind (M.det (book_Book_Ctx_o ctx_2 nl3 m4 nl5 m6)) fun y8=>
 M.bind (M.det (r09_Norm x1.ctx)) fun v10=>
 M.bind (M.det (r09_Eq y8 v10)) fun v12=>
 cond v12
  (M.bind (M.det (book_Book_Live_o ctx_2 nl3 m4 nl5 m6)) fun y15=>
  M.bind (M.det (r18_Live x1)) fun v17=>
  M.bind (M.det (r13_All y15 v17)) fun v19=>
  cond v19
   (M.bind (M.det (book_Book_Tombs_o ctx_2 nl3 m4 nl5 m6)) fun y22=>
   M.bind (M.det (r18_Tombs x1)) fun v24=>
   M.bind (M.det (r13_All y22 v24)) fun v26=>
   cond v26
    (M.bind (M.det (book_Book_All_o ctx_2 nl3 m4 nl5 m6)) fun y29=>
    M.bind (M.det (r13_All y29 x1.l)) fun v31=>
    M.pure v31)
    (M.pure false))
   (M.pure false))
  (M.pure false)) (fun v7=>
 cond v7
  (M.pure 1)
  (M.pure 0))

def book_Book_Of_c1_cl (e1:TEvent) (cv2:Int):M Bool:=
 M.pure (!decide (e1.cid = cv2))

def slices_IndexFunc_sl_Event_Event_book_Book_Of_c1_l0 (s1:List TEvent) (cv2:Int):Int → M (M.Step Int (M.Ex Unit Int)):=fun v16=>
 cond ((decide (v16 < (List.length s1:Int))))
  (M.bind (M.idx s1 v16) fun x18=>
  M.bind (M.det (book_Book_Of_c1_cl x18 cv2)) fun v20=>
  cond v20
   (M.pure (.done (.ret v16)))
   (M.pure (.next (IntKind.i64.wrap (v16 + 1)))))
  (M.pure (.done (.brk ())))
def slices_IndexFunc_sl_Event_Event_book_Book_Of_c1 (s1:List TEvent) (cv2:Int):M Int:=
 M.bind (M.loop (slices_IndexFunc_sl_Event_Event_book_Book_Of_c1_l0 s1 cv2) 0) (M.exk (fun _=>
 M.pure (-1)))

def slices_DeleteFunc_sl_Event_Event_book_Book_Of_c1_o_l0 (cv1:Int):Int × Int × List TEvent → M (M.Step (Int × Int × List TEvent) (Int × List TEvent)):=fun ⟨i31,j32,v33⟩=>
 cond ((decide (j32 < ((List.length v33):Int))))
  (M.bind (M.bind (M.idx v33 j32) fun x37=>
  M.bind (M.det (book_Book_Of_c1_cl x37 cv1)) fun v39=>
  cond (!v39)
   (M.bind (M.idx v33 i31) fun x42=>
   M.pure (((IntKind.i64.wrap (i31 + 1)),(List.set v33 (Int.toNat i31) x37))))
   (M.pure (i31,v33))) (fun ⟨i35,v36⟩=>
  M.pure (.next ((i35,(IntKind.i64.wrap (j32 + 1)),v36)))))
  (M.pure (.done (i31,v33)))
def slices_DeleteFunc_sl_Event_Event_book_Book_Of_c1_o (cv1:Int) (row2:List TEvent):M (List TEvent):=
 M.bind (M.det (slices_IndexFunc_sl_Event_Event_book_Book_Of_c1 row2 cv1)) fun v3=>
 cond ((decide (v3 = (-1))))
  (M.pure row2)
  (M.bind (M.loop (slices_DeleteFunc_sl_Event_Event_book_Book_Of_c1_o_l0 cv1) ((v3,(IntKind.i64.wrap (v3 + 1)),row2))) (fun ⟨i6,v7⟩=>
  M.need ((0:Int) ≤ i6 ∧ i6 ≤ (List.length v7:Int)) <|
  M.need ((Int.toNat i6) + (List.length v7 - Int.toNat i6) ≤ List.length v7) <|
  M.need ((0:Int) ≤ 0 ∧ (0:Int) ≤ i6 ∧ i6 ≤ (List.length ((List.take (Int.toNat i6) v7 ++ List.replicate (List.length v7 - Int.toNat i6) (⟨(⟨0,0⟩:TDot),0,0,0,(⟨#[]⟩:ByteArray),([]:List TDot)⟩:TEvent) ++ List.drop ((Int.toNat i6) + (List.length v7 - Int.toNat i6)) v7)):Int)) <|
  M.pure ((List.take (Int.toNat i6) ((List.take (Int.toNat i6) v7 ++ List.replicate (List.length v7 - Int.toNat i6) (⟨(⟨0,0⟩:TDot),0,0,0,(⟨#[]⟩:ByteArray),([]:List TDot)⟩:TEvent) ++ List.drop ((Int.toNat i6) + (List.length v7 - Int.toNat i6)) v7))))))

def book_Book_Of_o (cid1:Int) (ctx_2:List TPart) (nl3:Bool) (m4:List (TDot × TEvent)) (nl5:Bool) (m6:List (TDot × TEvent)):M (List TEvent):=
 M.bind (M.det (book_Book_Live_o ctx_2 nl3 m4 nl5 m6)) fun y7=>
 M.bind (M.det (slices_DeleteFunc_sl_Event_Event_book_Book_Of_c1_o cid1 y7)) fun y9=>
 M.pure y9

def l18_BookPlays_l0 (l1:List L18Act):Int × List TPart × List TEvent × List TPart × Bool × (List (TDot × TEvent)) × Bool × (List (TDot × TEvent)) → M (M.Step (Int × List TPart × List TEvent × List TPart × Bool × (List (TDot × TEvent)) × Bool × (List (TDot × TEvent))) (M.Ex (List TPart × List TEvent × List TPart × Bool × (List (TDot × TEvent)) × Bool × (List (TDot × TEvent))) Bool)):=fun ⟨i164,x165,x166,v167,nl168,v169,nl170,v171⟩=>
 cond ((decide (i164 < (List.length l1:Int))))
  (M.bind (M.idx l1 i164) fun x173=>
  M.bind (cond (decide (x173.kind = 0))
   (M.bind (M.det (r18_Put (⟨x165,x166⟩:R18Book) x173.event)) fun v184=>
   M.bind (M.det (book_Book_Put_o x173.event v167 nl170 v171 nl168 v169)) fun y186=>
   M.pure (((decide (y186.1 = v184.2)),v184.1.ctx,v184.1.l,y186.2.1,y186.2.2.2.2.1,y186.2.2.2.2.2,y186.2.2.1,y186.2.2.2.1)))
   (cond (decide (x173.kind = 1))
    (M.bind (M.det (book_Book_Make_o x173.event v167 nl170 v171 nl168 v169)) fun y189=>
    M.bind (M.det (r18_Make (⟨x165,x166⟩:R18Book) x173.event)) fun v191=>
    M.bind (M.det (r18_Put (⟨x165,x166⟩:R18Book) v191.1)) fun v193=>
    M.bind (M.bind (M.det (r13_Same y189.1 v191.1)) fun v201=>
    cond v201
     (cond (decide (y189.2 = v191.2))
      (M.bind (M.det (book_Book_Put_o y189.1 v167 nl170 v171 nl168 v169)) fun y205=>
      M.pure (((decide (y205.1 = v193.2)),y205.2.1,y205.2.2.2.2.1,y205.2.2.2.2.2,y205.2.2.1,y205.2.2.2.1)))
      (M.pure (false,v167,nl168,v169,nl170,v171)))
     (M.pure (false,v167,nl168,v169,nl170,v171))) (fun ⟨ok195,v196,nl197,v198,nl199,v200⟩=>
    M.pure (ok195,v193.1.ctx,v193.1.l,v196,nl197,v198,nl199,v200)))
    (cond (decide (x173.kind = 2))
     (M.bind (M.det (book_Book_See_o x173.ctx v167 nl170 v171 nl168 v169)) fun y208=>
     M.bind (M.det (r18_See (⟨x165,x166⟩:R18Book) x173.ctx)) fun v210=>
     M.pure (true,v210.ctx,v210.l,y208,nl168,v169,nl170,v171))
     (cond (decide (x173.kind = 3))
      (M.bind (M.det (r18_Prune (⟨x165,x166⟩:R18Book) x173.ctx)) fun v213=>
      M.bind (M.det (book_Book_Prune_o x173.ctx v167 nl170 v171 nl168 v169)) fun y215=>
      M.pure (((decide (y215.1 = v213.2)),v213.1.ctx,v213.1.l,v167,y215.2.2.2.1,y215.2.2.2.2,y215.2.1,y215.2.2.1)))
      (cond (decide (x173.kind = 4))
       (M.bind (book_Book_Copy_o v167 nl170 v171 nl168 v169) fun y218=>
       M.bind (M.det (book_Book_See_o x173.ctx v167 nl170 v171 nl168 v169)) fun y220=>
       M.bind (M.det (book_Book_Put_o x173.event y220 nl170 v171 nl168 v169)) fun y222=>
       M.bind (M.det (book_Book_Prune_o x173.ctx y222.2.1 y222.2.2.1 y222.2.2.2.1 y222.2.2.2.2.1 y222.2.2.2.2.2)) fun y224=>
       M.pure (true,x165,x166,y218.1,y218.2.2.2.1,y218.2.2.2.2,y218.2.1,y218.2.2.1))
       (M.bind (book_Book_Copy_o v167 nl170 v171 nl168 v169) fun y226=>
       M.bind (M.det (book_Same_o v167 y226.1 nl170 v171 nl168 v169 y226.2.1 y226.2.2.1 y226.2.2.2.1 y226.2.2.2.2)) fun y228=>
       M.pure (y228,x165,x166,v167,nl168,v169,nl170,v171))))))) (fun ⟨ok175,x176,x177,v178,nl179,v180,nl181,v182⟩=>
  M.bind (cond (!ok175)
   (M.pure true)
   (M.bind (M.det (l18_Is_o (⟨x176,x177⟩:R18Book) v178 nl181 v182 nl179 v180)) fun y232=>
   cond (decide (y232 = 0))
    (M.pure true)
    (M.bind (M.det (book_Book_Of_o x173.event.cid v178 nl181 v182 nl179 v180)) fun y235=>
    M.bind (M.det (r18_Of (⟨x176,x177⟩:R18Book) x173.event.cid)) fun v237=>
    M.bind (M.det (r13_All y235 v237)) fun v239=>
    M.pure (!v239)))) (fun v230=>
  cond v230
   (M.pure (.done (.ret false)))
   (M.pure (.next (((IntKind.i64.wrap (i164 + 1)),x176,x177,v178,nl179,v180,nl181,v182)))))))
  (M.pure (.done (.brk (x165,x166,v167,nl168,v169,nl170,v171))))
def l18_BookPlays (l1:List L18Act):M Bool:=
 M.bind (M.det (l18_Few l1 25)) fun v2=>
 cond (decide (v2 = 0))
  (M.bind (M.det (l18_works)) fun v5=>
  M.pure v5)
  (M.bind (M.det (book_New_o)) fun y7=>
  M.bind (M.loop (l18_BookPlays_l0 l1) (0,([]:List TPart),([]:List TEvent),y7.1,y7.2.2.2.1,y7.2.2.2.2,y7.2.1,y7.2.2.1)) (M.exk (fun ⟨x9,x10,v11,nl12,v13,nl14,v15⟩=>
  M.bind (M.bind (M.det (l18_Is_o (⟨x9,x10⟩:R18Book) v11 nl14 v15 nl12 v13)) fun y243=>
  cond (decide (y243 = 1))
   (M.bind (M.det (l18_works)) fun v246=>
   M.pure v246)
   (M.pure false)) (fun v242=>
  M.pure v242))))

def r09_Good (c1:List TPart):M Bool:=
 M.bind (M.det (r09_Norm c1)) fun v2=>
 M.bind (M.det (r09_Eq c1 v2)) fun v4=>
 M.pure v4

def r09_Same (a1:List TPart) (b2:List TPart):M Bool:=
 M.bind (M.det (r09_Norm a1)) fun v3=>
 M.bind (M.det (r09_Norm b2)) fun v5=>
 M.bind (M.det (r09_Eq v3 v5)) fun v7=>
 M.pure v7

end Go.Ep

namespace Go.Proofs
open Go.Shelf
def Tryz.pdq214_ren : Go.Shelf.Ren:=⟨fun | 14=>214 | 20=>243 | 21=>244 | 22=>245 | 23=>246 | 24=>247 | 25=>248 | 26=>249 | 27=>250 | 46=>276 | 47=>277 | 48=>278 | 49=>279 | 50=>280 | 15=>215 | 57=>297 | 28=>251 | 29=>252 | n=>n,fun | 24=>34 | 22=>22 | 3=>3 | 25=>186 | 4=>4 | 0=>0 | 46=>241 | 45=>240 | 50=>209 | 66=>262 | 39=>217 | 55=>29 | 70=>266 | 76=>279 | 77=>280 | 53=>247 | 5=>5 | 9=>9 | n=>n,fun | n=>n⟩
theorem Tryz.pdq214 : Go.Proofs.SlLaysF0.n14 Tryz.prog Tryz.pdq214_ren:={
 mixed:=by kernel_rfl
 f14:=⟨Tryz.f214.name,by decide,Tryz.func214.trans (congrArg some (by kernel_rfl))⟩
 f15:=Tryz.func215.trans (congrArg some (by kernel_rfl))
 f20:=⟨Tryz.f243.name,by decide,Tryz.func243.trans (congrArg some (by kernel_rfl))⟩
 f21:=⟨Tryz.f244.name,by decide,Tryz.func244.trans (congrArg some (by kernel_rfl))⟩
 f22:=⟨Tryz.f245.name,by decide,Tryz.func245.trans (congrArg some (by kernel_rfl))⟩
 f23:=⟨Tryz.f246.name,by decide,Tryz.func246.trans (congrArg some (by kernel_rfl))⟩
 f24:=⟨Tryz.f247.name,by decide,Tryz.func247.trans (congrArg some (by kernel_rfl))⟩
 f25:=⟨Tryz.f248.name,by decide,Tryz.func248.trans (congrArg some (by kernel_rfl))⟩
 f26:=⟨Tryz.f249.name,by decide,Tryz.func249.trans (congrArg some (by kernel_rfl))⟩
 f27:=⟨Tryz.f250.name,by decide,Tryz.func250.trans (congrArg some (by kernel_rfl))⟩
 f28:=Tryz.func251.trans (congrArg some (by kernel_rfl))
 f29:=Tryz.func252.trans (congrArg some (by kernel_rfl))
 f46:=⟨Tryz.f276.name,by decide,Tryz.func276.trans (congrArg some (by kernel_rfl))⟩
 f47:=Tryz.func277.trans (congrArg some (by kernel_rfl))
 f48:=Tryz.func278.trans (congrArg some (by kernel_rfl))
 f49:=⟨Tryz.f279.name,by decide,Tryz.func279.trans (congrArg some (by kernel_rfl))⟩
 f50:=⟨Tryz.f280.name,by decide,Tryz.func280.trans (congrArg some (by kernel_rfl))⟩
 f57:=⟨Tryz.f297.name,by decide,Tryz.func297.trans (congrArg some (by kernel_rfl))⟩
 t0:=Tryz.underlying0
 a0:=Tryz.isAgg0
 z0:=Tryz.sizeOf0
 v0:=Tryz.zeroValue0
 t3:=Tryz.underlying3
 a3:=Tryz.isAgg3
 z3:=Tryz.sizeOf3
 v3:=Tryz.zeroValue3
 t4:=Tryz.underlying4
 a4:=Tryz.isAgg4
 z4:=Tryz.sizeOf4
 v4:=Tryz.zeroValue4
 t5:=Tryz.underlying5
 a5:=Tryz.isAgg5
 z5:=Tryz.sizeOf5
 v5:=Tryz.zeroValue5
 t9:=Tryz.underlying9
 a9:=Tryz.isAgg9
 z9:=Tryz.sizeOf9
 v9:=Tryz.zeroValue9
 t22:=Tryz.underlying22
 a22:=Tryz.isAgg22
 z22:=Tryz.sizeOf22
 v22:=Tryz.zeroValue22
 t25:=Tryz.underlying186
 a25:=Tryz.isAgg186
 z25:=Tryz.sizeOf186
 v25:=Tryz.zeroValue186
 t39:=Tryz.underlying217
 a39:=Tryz.isAgg217
 z39:=Tryz.sizeOf217
 v39:=Tryz.zeroValue217
 t45:=Tryz.underlying240
 a45:=Tryz.isAgg240
 z45:=Tryz.sizeOf240
 v45:=Tryz.zeroValue240
 t46:=Tryz.underlying241
 a46:=Tryz.isAgg241
 z46:=Tryz.sizeOf241
 v46:=Tryz.zeroValue241
 t50:=Tryz.underlying209
 a50:=Tryz.isAgg209
 z50:=Tryz.sizeOf209
 v50:=Tryz.zeroValue209
 t53:=Tryz.underlying247
 a53:=Tryz.isAgg247
 z53:=Tryz.sizeOf247
 v53:=Tryz.zeroValue247
 t55:=Tryz.underlying29
 a55:=Tryz.isAgg29
 z55:=Tryz.sizeOf29
 v55:=Tryz.zeroValue29
 t66:=Tryz.underlying262
 a66:=Tryz.isAgg262
 z66:=Tryz.sizeOf262
 v66:=Tryz.zeroValue262
 t70:=Tryz.underlying266
 a70:=Tryz.isAgg266
 z70:=Tryz.sizeOf266
 v70:=Tryz.zeroValue266
 t76:=Tryz.underlying279
 a76:=Tryz.isAgg279
 z76:=Tryz.sizeOf279
 v76:=Tryz.zeroValue279
 t77:=Tryz.underlying280
 a77:=Tryz.isAgg280
 z77:=Tryz.sizeOf280
 v77:=Tryz.zeroValue280 }
def Tryz.pdq241_ren : Go.Shelf.Ren:=⟨fun | 14=>241 | 20=>260 | 21=>261 | 22=>262 | 23=>263 | 24=>264 | 25=>265 | 26=>266 | 27=>267 | 46=>291 | 47=>277 | 48=>278 | 49=>292 | 50=>293 | 15=>215 | 57=>301 | 28=>251 | 29=>252 | n=>n,fun | 24=>31 | 22=>32 | 3=>3 | 25=>156 | 4=>4 | 0=>0 | 46=>241 | 45=>240 | 50=>209 | 66=>262 | 39=>217 | 55=>29 | 70=>266 | 76=>279 | 77=>280 | 53=>247 | 5=>5 | 9=>9 | n=>n,fun | n=>n⟩
theorem Tryz.pdq241 : Go.Proofs.SlLaysF0.n14 Tryz.prog Tryz.pdq241_ren:={
 mixed:=by kernel_rfl
 f14:=⟨Tryz.f241.name,by decide,Tryz.func241.trans (congrArg some (by kernel_rfl))⟩
 f15:=Tryz.func215.trans (congrArg some (by kernel_rfl))
 f20:=⟨Tryz.f260.name,by decide,Tryz.func260.trans (congrArg some (by kernel_rfl))⟩
 f21:=⟨Tryz.f261.name,by decide,Tryz.func261.trans (congrArg some (by kernel_rfl))⟩
 f22:=⟨Tryz.f262.name,by decide,Tryz.func262.trans (congrArg some (by kernel_rfl))⟩
 f23:=⟨Tryz.f263.name,by decide,Tryz.func263.trans (congrArg some (by kernel_rfl))⟩
 f24:=⟨Tryz.f264.name,by decide,Tryz.func264.trans (congrArg some (by kernel_rfl))⟩
 f25:=⟨Tryz.f265.name,by decide,Tryz.func265.trans (congrArg some (by kernel_rfl))⟩
 f26:=⟨Tryz.f266.name,by decide,Tryz.func266.trans (congrArg some (by kernel_rfl))⟩
 f27:=⟨Tryz.f267.name,by decide,Tryz.func267.trans (congrArg some (by kernel_rfl))⟩
 f28:=Tryz.func251.trans (congrArg some (by kernel_rfl))
 f29:=Tryz.func252.trans (congrArg some (by kernel_rfl))
 f46:=⟨Tryz.f291.name,by decide,Tryz.func291.trans (congrArg some (by kernel_rfl))⟩
 f47:=Tryz.func277.trans (congrArg some (by kernel_rfl))
 f48:=Tryz.func278.trans (congrArg some (by kernel_rfl))
 f49:=⟨Tryz.f292.name,by decide,Tryz.func292.trans (congrArg some (by kernel_rfl))⟩
 f50:=⟨Tryz.f293.name,by decide,Tryz.func293.trans (congrArg some (by kernel_rfl))⟩
 f57:=⟨Tryz.f301.name,by decide,Tryz.func301.trans (congrArg some (by kernel_rfl))⟩
 t0:=Tryz.underlying0
 a0:=Tryz.isAgg0
 z0:=Tryz.sizeOf0
 v0:=Tryz.zeroValue0
 t3:=Tryz.underlying3
 a3:=Tryz.isAgg3
 z3:=Tryz.sizeOf3
 v3:=Tryz.zeroValue3
 t4:=Tryz.underlying4
 a4:=Tryz.isAgg4
 z4:=Tryz.sizeOf4
 v4:=Tryz.zeroValue4
 t5:=Tryz.underlying5
 a5:=Tryz.isAgg5
 z5:=Tryz.sizeOf5
 v5:=Tryz.zeroValue5
 t9:=Tryz.underlying9
 a9:=Tryz.isAgg9
 z9:=Tryz.sizeOf9
 v9:=Tryz.zeroValue9
 t22:=Tryz.underlying32
 a22:=Tryz.isAgg32
 z22:=Tryz.sizeOf32
 v22:=Tryz.zeroValue32
 t25:=Tryz.underlying156
 a25:=Tryz.isAgg156
 z25:=Tryz.sizeOf156
 v25:=Tryz.zeroValue156
 t39:=Tryz.underlying217
 a39:=Tryz.isAgg217
 z39:=Tryz.sizeOf217
 v39:=Tryz.zeroValue217
 t45:=Tryz.underlying240
 a45:=Tryz.isAgg240
 z45:=Tryz.sizeOf240
 v45:=Tryz.zeroValue240
 t46:=Tryz.underlying241
 a46:=Tryz.isAgg241
 z46:=Tryz.sizeOf241
 v46:=Tryz.zeroValue241
 t50:=Tryz.underlying209
 a50:=Tryz.isAgg209
 z50:=Tryz.sizeOf209
 v50:=Tryz.zeroValue209
 t53:=Tryz.underlying247
 a53:=Tryz.isAgg247
 z53:=Tryz.sizeOf247
 v53:=Tryz.zeroValue247
 t55:=Tryz.underlying29
 a55:=Tryz.isAgg29
 z55:=Tryz.sizeOf29
 v55:=Tryz.zeroValue29
 t66:=Tryz.underlying262
 a66:=Tryz.isAgg262
 z66:=Tryz.sizeOf262
 v66:=Tryz.zeroValue262
 t70:=Tryz.underlying266
 a70:=Tryz.isAgg266
 z70:=Tryz.sizeOf266
 v70:=Tryz.zeroValue266
 t76:=Tryz.underlying279
 a76:=Tryz.isAgg279
 z76:=Tryz.sizeOf279
 v76:=Tryz.zeroValue279
 t77:=Tryz.underlying280
 a77:=Tryz.isAgg280
 z77:=Tryz.sizeOf280
 v77:=Tryz.zeroValue280 }
def Tryz.pdq242_ren : Go.Shelf.Ren:=⟨fun | 14=>242 | 20=>268 | 21=>269 | 22=>270 | 23=>271 | 24=>272 | 25=>273 | 26=>274 | 27=>275 | 46=>294 | 47=>277 | 48=>278 | 49=>295 | 50=>296 | 15=>215 | 57=>302 | 28=>251 | 29=>252 | n=>n,fun | 24=>80 | 22=>41 | 3=>3 | 25=>214 | 4=>4 | 0=>0 | 46=>241 | 45=>240 | 50=>209 | 66=>262 | 39=>217 | 55=>29 | 70=>266 | 76=>279 | 77=>280 | 53=>247 | 5=>5 | 9=>9 | n=>n,fun | n=>n⟩
theorem Tryz.pdq242 : Go.Proofs.SlLaysF0.n14 Tryz.prog Tryz.pdq242_ren:={
 mixed:=by kernel_rfl
 f14:=⟨Tryz.f242.name,by decide,Tryz.func242.trans (congrArg some (by kernel_rfl))⟩
 f15:=Tryz.func215.trans (congrArg some (by kernel_rfl))
 f20:=⟨Tryz.f268.name,by decide,Tryz.func268.trans (congrArg some (by kernel_rfl))⟩
 f21:=⟨Tryz.f269.name,by decide,Tryz.func269.trans (congrArg some (by kernel_rfl))⟩
 f22:=⟨Tryz.f270.name,by decide,Tryz.func270.trans (congrArg some (by kernel_rfl))⟩
 f23:=⟨Tryz.f271.name,by decide,Tryz.func271.trans (congrArg some (by kernel_rfl))⟩
 f24:=⟨Tryz.f272.name,by decide,Tryz.func272.trans (congrArg some (by kernel_rfl))⟩
 f25:=⟨Tryz.f273.name,by decide,Tryz.func273.trans (congrArg some (by kernel_rfl))⟩
 f26:=⟨Tryz.f274.name,by decide,Tryz.func274.trans (congrArg some (by kernel_rfl))⟩
 f27:=⟨Tryz.f275.name,by decide,Tryz.func275.trans (congrArg some (by kernel_rfl))⟩
 f28:=Tryz.func251.trans (congrArg some (by kernel_rfl))
 f29:=Tryz.func252.trans (congrArg some (by kernel_rfl))
 f46:=⟨Tryz.f294.name,by decide,Tryz.func294.trans (congrArg some (by kernel_rfl))⟩
 f47:=Tryz.func277.trans (congrArg some (by kernel_rfl))
 f48:=Tryz.func278.trans (congrArg some (by kernel_rfl))
 f49:=⟨Tryz.f295.name,by decide,Tryz.func295.trans (congrArg some (by kernel_rfl))⟩
 f50:=⟨Tryz.f296.name,by decide,Tryz.func296.trans (congrArg some (by kernel_rfl))⟩
 f57:=⟨Tryz.f302.name,by decide,Tryz.func302.trans (congrArg some (by kernel_rfl))⟩
 t0:=Tryz.underlying0
 a0:=Tryz.isAgg0
 z0:=Tryz.sizeOf0
 v0:=Tryz.zeroValue0
 t3:=Tryz.underlying3
 a3:=Tryz.isAgg3
 z3:=Tryz.sizeOf3
 v3:=Tryz.zeroValue3
 t4:=Tryz.underlying4
 a4:=Tryz.isAgg4
 z4:=Tryz.sizeOf4
 v4:=Tryz.zeroValue4
 t5:=Tryz.underlying5
 a5:=Tryz.isAgg5
 z5:=Tryz.sizeOf5
 v5:=Tryz.zeroValue5
 t9:=Tryz.underlying9
 a9:=Tryz.isAgg9
 z9:=Tryz.sizeOf9
 v9:=Tryz.zeroValue9
 t22:=Tryz.underlying41
 a22:=Tryz.isAgg41
 z22:=Tryz.sizeOf41
 v22:=Tryz.zeroValue41
 t25:=Tryz.underlying214
 a25:=Tryz.isAgg214
 z25:=Tryz.sizeOf214
 v25:=Tryz.zeroValue214
 t39:=Tryz.underlying217
 a39:=Tryz.isAgg217
 z39:=Tryz.sizeOf217
 v39:=Tryz.zeroValue217
 t45:=Tryz.underlying240
 a45:=Tryz.isAgg240
 z45:=Tryz.sizeOf240
 v45:=Tryz.zeroValue240
 t46:=Tryz.underlying241
 a46:=Tryz.isAgg241
 z46:=Tryz.sizeOf241
 v46:=Tryz.zeroValue241
 t50:=Tryz.underlying209
 a50:=Tryz.isAgg209
 z50:=Tryz.sizeOf209
 v50:=Tryz.zeroValue209
 t53:=Tryz.underlying247
 a53:=Tryz.isAgg247
 z53:=Tryz.sizeOf247
 v53:=Tryz.zeroValue247
 t55:=Tryz.underlying29
 a55:=Tryz.isAgg29
 z55:=Tryz.sizeOf29
 v55:=Tryz.zeroValue29
 t66:=Tryz.underlying262
 a66:=Tryz.isAgg262
 z66:=Tryz.sizeOf262
 v66:=Tryz.zeroValue262
 t70:=Tryz.underlying266
 a70:=Tryz.isAgg266
 z70:=Tryz.sizeOf266
 v70:=Tryz.zeroValue266
 t76:=Tryz.underlying279
 a76:=Tryz.isAgg279
 z76:=Tryz.sizeOf279
 v76:=Tryz.zeroValue279
 t77:=Tryz.underlying280
 a77:=Tryz.isAgg280
 z77:=Tryz.sizeOf280
 v77:=Tryz.zeroValue280 }
def Tryz.pdq259_ren : Go.Shelf.Ren:=⟨fun | 14=>259 | 20=>283 | 21=>284 | 22=>285 | 23=>286 | 24=>287 | 25=>288 | 26=>289 | 27=>290 | 46=>298 | 47=>277 | 48=>278 | 49=>299 | 50=>300 | 15=>215 | 57=>303 | 28=>251 | 29=>252 | n=>n,fun | 24=>82 | 22=>78 | 3=>3 | 25=>236 | 4=>4 | 0=>0 | 46=>241 | 45=>240 | 50=>209 | 66=>262 | 39=>217 | 55=>29 | 70=>266 | 76=>279 | 77=>280 | 53=>247 | 5=>5 | 9=>9 | n=>n,fun | n=>n⟩
theorem Tryz.pdq259 : Go.Proofs.SlLaysF0.n14 Tryz.prog Tryz.pdq259_ren:={
 mixed:=by kernel_rfl
 f14:=⟨Tryz.f259.name,by decide,Tryz.func259.trans (congrArg some (by kernel_rfl))⟩
 f15:=Tryz.func215.trans (congrArg some (by kernel_rfl))
 f20:=⟨Tryz.f283.name,by decide,Tryz.func283.trans (congrArg some (by kernel_rfl))⟩
 f21:=⟨Tryz.f284.name,by decide,Tryz.func284.trans (congrArg some (by kernel_rfl))⟩
 f22:=⟨Tryz.f285.name,by decide,Tryz.func285.trans (congrArg some (by kernel_rfl))⟩
 f23:=⟨Tryz.f286.name,by decide,Tryz.func286.trans (congrArg some (by kernel_rfl))⟩
 f24:=⟨Tryz.f287.name,by decide,Tryz.func287.trans (congrArg some (by kernel_rfl))⟩
 f25:=⟨Tryz.f288.name,by decide,Tryz.func288.trans (congrArg some (by kernel_rfl))⟩
 f26:=⟨Tryz.f289.name,by decide,Tryz.func289.trans (congrArg some (by kernel_rfl))⟩
 f27:=⟨Tryz.f290.name,by decide,Tryz.func290.trans (congrArg some (by kernel_rfl))⟩
 f28:=Tryz.func251.trans (congrArg some (by kernel_rfl))
 f29:=Tryz.func252.trans (congrArg some (by kernel_rfl))
 f46:=⟨Tryz.f298.name,by decide,Tryz.func298.trans (congrArg some (by kernel_rfl))⟩
 f47:=Tryz.func277.trans (congrArg some (by kernel_rfl))
 f48:=Tryz.func278.trans (congrArg some (by kernel_rfl))
 f49:=⟨Tryz.f299.name,by decide,Tryz.func299.trans (congrArg some (by kernel_rfl))⟩
 f50:=⟨Tryz.f300.name,by decide,Tryz.func300.trans (congrArg some (by kernel_rfl))⟩
 f57:=⟨Tryz.f303.name,by decide,Tryz.func303.trans (congrArg some (by kernel_rfl))⟩
 t0:=Tryz.underlying0
 a0:=Tryz.isAgg0
 z0:=Tryz.sizeOf0
 v0:=Tryz.zeroValue0
 t3:=Tryz.underlying3
 a3:=Tryz.isAgg3
 z3:=Tryz.sizeOf3
 v3:=Tryz.zeroValue3
 t4:=Tryz.underlying4
 a4:=Tryz.isAgg4
 z4:=Tryz.sizeOf4
 v4:=Tryz.zeroValue4
 t5:=Tryz.underlying5
 a5:=Tryz.isAgg5
 z5:=Tryz.sizeOf5
 v5:=Tryz.zeroValue5
 t9:=Tryz.underlying9
 a9:=Tryz.isAgg9
 z9:=Tryz.sizeOf9
 v9:=Tryz.zeroValue9
 t22:=Tryz.underlying78
 a22:=Tryz.isAgg78
 z22:=Tryz.sizeOf78
 v22:=Tryz.zeroValue78
 t25:=Tryz.underlying236
 a25:=Tryz.isAgg236
 z25:=Tryz.sizeOf236
 v25:=Tryz.zeroValue236
 t39:=Tryz.underlying217
 a39:=Tryz.isAgg217
 z39:=Tryz.sizeOf217
 v39:=Tryz.zeroValue217
 t45:=Tryz.underlying240
 a45:=Tryz.isAgg240
 z45:=Tryz.sizeOf240
 v45:=Tryz.zeroValue240
 t46:=Tryz.underlying241
 a46:=Tryz.isAgg241
 z46:=Tryz.sizeOf241
 v46:=Tryz.zeroValue241
 t50:=Tryz.underlying209
 a50:=Tryz.isAgg209
 z50:=Tryz.sizeOf209
 v50:=Tryz.zeroValue209
 t53:=Tryz.underlying247
 a53:=Tryz.isAgg247
 z53:=Tryz.sizeOf247
 v53:=Tryz.zeroValue247
 t55:=Tryz.underlying29
 a55:=Tryz.isAgg29
 z55:=Tryz.sizeOf29
 v55:=Tryz.zeroValue29
 t66:=Tryz.underlying262
 a66:=Tryz.isAgg262
 z66:=Tryz.sizeOf262
 v66:=Tryz.zeroValue262
 t70:=Tryz.underlying266
 a70:=Tryz.isAgg266
 z70:=Tryz.sizeOf266
 v70:=Tryz.zeroValue266
 t76:=Tryz.underlying279
 a76:=Tryz.isAgg279
 z76:=Tryz.sizeOf279
 v76:=Tryz.zeroValue279
 t77:=Tryz.underlying280
 a77:=Tryz.isAgg280
 z77:=Tryz.sizeOf280
 v77:=Tryz.zeroValue280 }
def Tryz.bits215_ren : Go.Shelf.Ren:=⟨fun | 15=>215 | 28=>251 | 29=>252 | n=>n,fun | 39=>217 | 3=>3 | 53=>247 | 55=>29 | 4=>4 | 5=>5 | 9=>9 | n=>n,fun | n=>n⟩
theorem Tryz.bits215 : Go.Proofs.SlLaysF0.n15 Tryz.prog Tryz.bits215_ren:={
 mixed:=by kernel_rfl
 f15:=Tryz.func215.trans (congrArg some (by kernel_rfl))
 f28:=Tryz.func251.trans (congrArg some (by kernel_rfl))
 f29:=Tryz.func252.trans (congrArg some (by kernel_rfl))
 t3:=Tryz.underlying3
 a3:=Tryz.isAgg3
 z3:=Tryz.sizeOf3
 v3:=Tryz.zeroValue3
 t4:=Tryz.underlying4
 a4:=Tryz.isAgg4
 z4:=Tryz.sizeOf4
 v4:=Tryz.zeroValue4
 t5:=Tryz.underlying5
 a5:=Tryz.isAgg5
 z5:=Tryz.sizeOf5
 v5:=Tryz.zeroValue5
 t9:=Tryz.underlying9
 a9:=Tryz.isAgg9
 z9:=Tryz.sizeOf9
 v9:=Tryz.zeroValue9
 t39:=Tryz.underlying217
 a39:=Tryz.isAgg217
 z39:=Tryz.sizeOf217
 v39:=Tryz.zeroValue217
 t53:=Tryz.underlying247
 a53:=Tryz.isAgg247
 z53:=Tryz.sizeOf247
 v53:=Tryz.zeroValue247
 t55:=Tryz.underlying29
 a55:=Tryz.isAgg29
 z55:=Tryz.sizeOf29
 v55:=Tryz.zeroValue29 }
end Go.Proofs

namespace Go.Ep
open Go.Shelf Go.RowKit Go.Lib Go.Sort Go.Proofs

theorem SortLaw.of {α:Type} [Inhabited α] {P:Program} {f g:FuncId} {k:Nat} {enc:α → List Value} {lt:α → α → Bool} {cf:α → α → Int} (hO:SWO (ltOf cf)) (hlt:∀ x y,ltOf cf x y = lt x y) (hk:∀ x,(enc x).length = k)
  (hnil:∀ w:World,Calls P f #[.slice none 0 0,.func (.func g) #[] #[]] w fun e w'=>e = .returned (.tuple #[]) ∧ Go.RowKit.Below w.heap.size w w')
  (hrow:∀ (blk off cap:Nat) (d:Array α) (w:World),HoldsK enc k w blk off d → blk < w.heap.size → d.size < 4611686018427387904 →
   Calls P f #[.slice (some ⟨blk,off,none⟩) d.size cap,.func (.func g) #[] #[]] w fun e w'=>e = .returned (.tuple #[]) ∧ ∃ n os,w' = sortWorldK enc k w blk off n (pdq (ltOf cf) d 0 d.size (Lib.bitLen d.size) true true) os):SortLaw P f g k enc lt:=by
 refine ⟨hnil,fun w blk cap l T cur hh hlc hcs hlen hcells=>?_⟩;have hblk:blk < w.heap.size:=(Array.getElem?_eq_some_iff.1 hh).1;have hH:HoldsK enc k w blk 0 l.toArray:=by
  intro j hj;rw [size_flatK] at hj;have hj':j < l.length * k:=by simpa using hj
  obtain ⟨hk0,h1,h2,h3⟩:=idx_split hj'
  constructor
  ·rw [Nat.zero_add,cell_of_heap hh];show _ = some ((flatK enc k l.toArray)[j]!);rw [get_flatK _ _ _ _ hj];have hx:l[j / k]? = some l[j / k]:=List.getElem?_eq_getElem h1;have hlk:(enc l[j / k]).length = k:=hk _;have hu:(enc l[j / k])[j % k]? = some ((enc l[j / k])[j % k]'(by omega)):=List.getElem?_eq_getElem (by omega);have:=hcells (j / k) _ (j % k) _ hx hu;rw [h3] at this;rw [this];have e1:(l.toArray)[j / k]! = l[j / k]:=by simp [h1]
   rw [e1];simp [hu]
  ·simp [World.frozen?,hh]
 have hd:l.toArray.size = l.length:=by simp
 have hcall:=hrow blk 0 cap l.toArray w hH hblk (by simpa using hlen);rw [hd] at hcall;refine hcall.mono fun e w' ⟨he,n,os,hw⟩=>⟨he,?_⟩
 have hp:=pdq_sorts (ltOf cf) hO l.toArray 0 l.toArray.size (Lib.bitLen l.toArray.size) true true (Nat.zero_le _) (Nat.le_refl _) (Or.inl rfl);rw [hd] at hp
 generalize pdq (ltOf cf) l.toArray 0 l.length (Lib.bitLen l.length) true true = d' at hp hw
 obtain ⟨⟨hsz,_,hperm⟩,hsort⟩:=hp;have hsz':d'.size = l.length:=by simpa using hsz
 have hp':d'.toList.Perm l:=by
  have e1:(d'.extract 0 l.length).toList = d'.toList:=by rw [← hsz'];simp
  have e2:(l.toArray.extract 0 l.length).toList = l:=by simp
  rw [e1,e2] at hperm;exact hperm
 have hmod:∀ b,b < w.heap.size → (sortWorldK enc k w blk 0 n d' os).heap[b]? = if blk = b then (w.heap[b]?).map (onCells (putCells id 0 (flatK enc k d'))) else w.heap[b]?:=by
  intro b hb;have hb2:b < (putRowK enc k (Sort.ahead w n) blk 0 d').heap.size:=by simpa [putRowK,Sort.ahead] using hb
  show (grow (putRowK enc k (Sort.ahead w n) blk 0 d') os).heap[b]? = _;rw [Sort.heap_grow_old _ _ hb2];show ((w.heap.modify blk (onCells (putCells id 0 (flatK enc k d')))))[b]? = _;rw [Array.getElem?_modify]
 subst hw;refine ⟨d'.toList,(putCells id 0 (flatK enc k d') cur.toArray).toList,hp',?_,?_,?_,?_,rfl,rfl,rfl,?_,?_⟩
 ·rw [List.pairwise_iff_getElem];intro i j hi hj hij;have:=hsort i j (Nat.zero_le _) hij (by simpa [hsz'] using hj);rw [hlt] at this;have hi':i < d'.size:=by simpa using hi
  have hj':j < d'.size:=by simpa using hj
  simpa [hi',hj'] using this
 ·rw [hmod blk hblk,if_pos rfl,hh];simp [onCells]
 ·simp [putCells]
 ·intro i x j u hi hu;have hi':i < l.length:=by rw [← hsz'];have:=(List.getElem?_eq_some_iff.1 hi).1;simpa using this
  have hj:j < k:=by rw [← hk x];exact (List.getElem?_eq_some_iff.1 hu).1
  have hlt2:i * k + j < l.length * k:=idx_lt hi' hj;have hcl:l.length * k ≤ cur.length:=by rw [hcs];exact Nat.mul_le_mul_right k hlc
  have hin:i * k + j < d'.size * k:=by rw [hsz'];exact hlt2
  have hget:(flatK enc k d')[i * k + j]! = u:=by
   rw [get_flatK _ _ _ _ hin];have hk0:0 < k:=by omega
   have e1:(i * k + j) / k = i:=by rw [Nat.mul_comm,Nat.mul_add_div hk0,Nat.div_eq_of_lt hj];omega
   have e2:(i * k + j) % k = j:=by rw [Nat.mul_comm,Nat.mul_add_mod,Nat.mod_eq_of_lt hj]
   rw [e1,e2];have e3:d'[i]! = x:=by
    obtain ⟨h1,h2⟩:=List.getElem?_eq_some_iff.1 hi;have h1':i < d'.size:=by simpa using h1
    rw [getElem!_pos d' i h1'];simpa using h2
   rw [e3];simp [hu]
  have hc2:i * k + j < cur.length:=by omega
  simp only [putCells,Array.toList_mapIdx,List.getElem?_mapIdx];rw [List.getElem?_eq_getElem hc2];simp only [Option.map_some,id];rw [if_pos ⟨Nat.zero_le _,by rw [size_flatK];omega⟩,Nat.sub_zero,hget]
 ·show w.heap.size ≤ (grow (putRowK enc k (Sort.ahead w n) blk 0 d') os).heap.size;simp [grow,putRowK,Sort.ahead]
 ·intro b hb hne;rw [hmod b hb,if_neg (Ne.symm hne)]
end Go.Ep

namespace Go.Proofs
set_option linter.unusedSimpArgs false
set_option linter.unusedVariables false
open Go.Shelf Go.RowKit Go.Lib Go.Sort Go.Ep
theorem nanu16 (a:Int) (W:World):Calls Tryz.prog 219 #[.int .u16 a] W fun e w'=>e = .returned (.bool false) ∧ w' = W:=by
 go_enter Tryz.func219,Tryz.ntmps219
 go_wp2
 go_ret
 exact ⟨by simp,rfl⟩
theorem cmpu16 (a b:Int) (W:World):Calls Tryz.prog 177 #[.int .u16 a,.int .u16 b] W fun e w'=>e = .returned (.int .i64 (Lib.compareInt a b)) ∧ w' = W:=by
 unfold Lib.compareInt
 by_cases h1:a < b
 ·go_enter Tryz.func177,Tryz.ntmps177
  go_wp2_with (go_at_call 219;refine (nanu16 _ _).mono ?_;rintro e w' ⟨rfl,rfl⟩)
  go_ret
  exact ⟨by simp [h1],rfl⟩
 ·by_cases h2:b < a
  ·go_enter Tryz.func177,Tryz.ntmps177
   go_wp2_with (go_at_call 219;refine (nanu16 _ _).mono ?_;rintro e w' ⟨rfl,rfl⟩)
   go_ret
   exact ⟨by simp [h1,h2],rfl⟩
  ·go_enter Tryz.func177,Tryz.ntmps177
   go_wp2_with (go_at_call 219;refine (nanu16 _ _).mono ?_;rintro e w' ⟨rfl,rfl⟩)
   go_ret
   exact ⟨by simp [h1,h2],rfl⟩
theorem nanu64 (a:Int) (W:World):Calls Tryz.prog 220 #[.int .u64 a] W fun e w'=>e = .returned (.bool false) ∧ w' = W:=by
 go_enter Tryz.func220,Tryz.ntmps220
 go_wp2
 go_ret
 exact ⟨by simp,rfl⟩
theorem cmpu64 (a b:Int) (W:World):Calls Tryz.prog 178 #[.int .u64 a,.int .u64 b] W fun e w'=>e = .returned (.int .i64 (Lib.compareInt a b)) ∧ w' = W:=by
 unfold Lib.compareInt
 by_cases h1:a < b
 ·go_enter Tryz.func178,Tryz.ntmps178
  go_wp2_with (go_at_call 220;refine (nanu64 _ _).mono ?_;rintro e w' ⟨rfl,rfl⟩)
  go_ret
  exact ⟨by simp [h1],rfl⟩
 ·by_cases h2:b < a
  ·go_enter Tryz.func178,Tryz.ntmps178
   go_wp2_with (go_at_call 220;refine (nanu64 _ _).mono ?_;rintro e w' ⟨rfl,rfl⟩)
   go_ret
   exact ⟨by simp [h1,h2],rfl⟩
  ·go_enter Tryz.func178,Tryz.ntmps178
   go_wp2_with (go_at_call 220;refine (nanu64 _ _).mono ?_;rintro e w' ⟨rfl,rfl⟩)
   go_ret
   exact ⟨by simp [h1,h2],rfl⟩
theorem grow_drew (W:World) (a b:Array Obj) (q:Nat):grow ((grow W a).drewN q) b = grow (W.drewN q) (a ++ b):=by
 show grow (grow (W.drewN q) a) b = _;rw [grow_grow]
def dotCmpI (a b c d:Int):Int:=if Lib.compareInt a c ≠ 0 then Lib.compareInt a c else Lib.compareInt b d
theorem callDotCmp (a b c d:Int) (W:World):Calls Tryz.prog 120 #[.agg #[.int .u16 a,.int .u64 b],.agg #[.int .u16 c,.int .u64 d]] W fun e w'=>e = .returned (.int .i64 (dotCmpI a b c d)) ∧ ∃ q os',w' = grow (W.drewN q) os':=by
 have c1:=fun W'=>cmpu16 a c W'
 have c2:=fun W'=>cmpu64 b d W'
 unfold dotCmpI
 generalize Lib.compareInt a c = r1 at c1 ⊢
 generalize Lib.compareInt b d = r2 at c2 ⊢
 by_cases h:r1 = 0
 ·subst h
  go_enter Tryz.func120,Tryz.ntmps120
  go_wp2_with (first | (go_at_call 177;refine (c1 _).mono ?_;rintro e w' ⟨rfl,rfl⟩) | (go_at_call 178;refine (c2 _).mono ?_;rintro e w' ⟨rfl,rfl⟩))
  go_ret
  exact ⟨by simp,0,_,by rw [alloc_eq_grow,alloc_eq_grow,grow_grow];rfl⟩
 ·go_enter Tryz.func120,Tryz.ntmps120
  go_wp2_with (first | (go_at_call 177;refine (c1 _).mono ?_;rintro e w' ⟨rfl,rfl⟩) | (go_at_call 178;refine (c2 _).mono ?_;rintro e w' ⟨rfl,rfl⟩))
  go_ret
  exact ⟨by simp [h],0,_,by rw [alloc_eq_grow,alloc_eq_grow,grow_grow];rfl⟩
structure RawTEvent where
 dot_dev_:Int
 dot_n_:Int
 c2:Value
 h2:c2.oneCell' = true
 c3:Value
 h3:c3.oneCell' = true
 c4:Value
 h4:c4.oneCell' = true
 c5:Value
 h5:c5.oneCell' = true
 c6:Value
 h6:c6.oneCell' = true
def RawTEvent.v (r:RawTEvent):List Value:=[.int .u16 r.dot_dev_,.int .u64 r.dot_n_,r.c2,r.c3,r.c4,r.c5,r.c6]
theorem RawTEvent.v1 (r:RawTEvent):∀ u ∈ r.v,u.oneCell' = true:=by
 intro u hu;simp only [RawTEvent.v,List.mem_cons,List.not_mem_nil,or_false] at hu;rcases hu with rfl | rfl | rfl | rfl | rfl | rfl | rfl
 ·rfl
 ·rfl
 ·exact r.h2
 ·exact r.h3
 ·exact r.h4
 ·exact r.h5
 ·exact r.h6
def RawTEvent.R (x:TEvent) (r:RawTEvent):Prop:=r.dot_dev_ = x.dot.dev ∧ r.dot_n_ = x.dot.n
theorem RawTEvent.raw (w:World) (S:Nat → Prop) (x:TEvent) (us:List Value) (hl:us.length = 7) (h:∀ (j:Nat) (d:DV) (u:Value),(TEvent.e x)[j]? = some d → us[j]? = some u → DRd w S d u):∃ r:RawTEvent,r.v = us ∧ RawTEvent.R x r:=by
 match us,hl with
 | [u0,u1,u2,u3,u4,u5,u6],_=>
  refine ⟨⟨x.dot.dev,x.dot.n,u2,(h 2 _ u2 rfl rfl).one,u3,(h 3 _ u3 rfl rfl).one,u4,(h 4 _ u4 rfl rfl).one,u5,(h 5 _ u5 rfl rfl).one,u6,(h 6 _ u6 rfl rfl).one⟩,?_,⟨rfl,rfl⟩⟩;have e0:=h 0 _ u0 rfl rfl
  cases e0
  have e1:=h 1 _ u1 rfl rfl
  cases e1
  rfl
def cf172 (x y:RawTEvent):Int:=dotCmpI x.dot_dev_ x.dot_n_ y.dot_dev_ y.dot_n_
theorem callcf172 (x y:RawTEvent) (W:World):Calls Tryz.prog 173 #[.agg #[.int .u16 x.dot_dev_,.int .u64 x.dot_n_,x.c2,x.c3,x.c4,x.c5,x.c6],.agg #[.int .u16 y.dot_dev_,.int .u64 y.dot_n_,y.c2,y.c3,y.c4,y.c5,y.c6]] W fun e w'=>e = .returned (.int .i64 (cf172 x y)) ∧ ∃ q os',w' = grow (W.drewN q) os':=by
 have c1:=fun W'=>callDotCmp x.dot_dev_ x.dot_n_ y.dot_dev_ y.dot_n_ W'
 unfold cf172
 generalize dotCmpI x.dot_dev_ x.dot_n_ y.dot_dev_ y.dot_n_ = r1 at c1 ⊢
 go_enter Tryz.func173,Tryz.ntmps173
 go_wp2_with (go_at_call 120;refine (c1 _).mono ?_;rintro e w' ⟨rfl,q,os',rfl⟩)
 go_ret
 exact ⟨rfl,q,_,by rw [alloc_eq_grow,alloc_eq_grow,grow_grow,grow_drew]⟩
theorem ltcf172 (x y:RawTEvent):ltOf cf172 x y = (fun x y:RawTEvent=>decide (x.dot_dev_ < y.dot_dev_) || (decide (x.dot_dev_ = y.dot_dev_) && decide (x.dot_n_ < y.dot_n_))) x y:=by
 unfold ltOf cf172 dotCmpI Lib.compareInt ;rw [Bool.eq_iff_iff];simp only [decide_eq_true_eq,Bool.or_eq_true,Bool.and_eq_true]
 split <;> (repeat' split) <;> omega
theorem swocf172 : SWO (ltOf cf172) where
 irrefl x:=by rw [ltcf172];simp []
 trans x y z h1 h2:=by rw [ltcf172] at *;simp [] at *;omega
 ntrans x y z h1 h2:=by rw [ltcf172] at *;simp [] at *;omega
instance inhcf172 : Inhabited RawTEvent:=⟨⟨0,0,.int .u64 0,rfl,.int .u64 0,rfl,.int .u64 0,rfl,.int .u64 0,rfl,.int .u64 0,rfl⟩⟩
theorem layscf172 (blk off size:Nat) (w:World):CmpLays Tryz.prog 173 #[] RawTEvent.v 7 cf172 blk off size w:=fun _ _ _ _ x y=>callcf172 x y _
set_option maxHeartbeats 2000000 in
set_option maxRecDepth 100000 in
theorem sort172_eq (blk off cap:Nat) (d:Array RawTEvent) (w:World) (hH:HoldsK RawTEvent.v 7 w blk off d) (hblk:blk < w.heap.size) (hsz:d.size < 4611686018427387904) :
  Calls Tryz.prog 172 #[.slice (some ⟨blk,off,none⟩) d.size cap,.func (.func 173) #[] #[]] w fun e w'=>e = .returned (.tuple #[]) ∧ ∃ n os,w' = sortWorldK RawTEvent.v 7 w blk off n (pdq (ltOf cf172) d 0 d.size (Lib.bitLen d.size) true true) os:=by
 have eg:∀ args w,(callFunc 173 args).run Tryz.prog w = .ok (.enter 173 args) w:=Tryz.call173;have e14:=Tryz.call214;have e15:=Tryz.call215;have hlim:Lib.bitLen d.size < 4611686018427387904:=Nat.lt_of_le_of_lt (Lib.bitLen_le d.size 62 (by omega) (by omega)) (by omega);have hp:=AnyQ.pdqsortCmpFunc_all Tryz.pdq214 7 Tryz.isAgg34 Tryz.sizeOf34 RawTEvent.v cf172 173 #[] swocf172 blk off cap d w eg (layscf172 blk off d.size w) ⟨fun _=>rfl,RawTEvent.v1,hH,hblk⟩ (d.size + 1) 0 d.size (Lib.bitLen d.size) d w (by omega) rfl (SWK.start hH) (Nat.zero_le _) (Nat.le_refl _) hsz hlim (Or.inl rfl)
 change Calls Tryz.prog 214 _ _ _ at hp
 have hl:Calls Tryz.prog 215 #[.int .u64 (d.size:Int)] w fun e w'=>e = .returned (.int .i64 (Lib.bitLen d.size:Nat)) ∧ w' = w:=by
  have h:=Any.bits_Len (SlLaysF0.n15.bits Tryz.bits215) (d.size:Int) w (by omega) (by omega)
  rwa [Int.toNat_natCast] at h
 have wr:IntKind.u64.wrap (d.size:Int) = d.size:=by simp [IntKind.wrap,IntKind.bits,IntKind.signed];omega
 clear hH
 go_enter Tryz.func172,Tryz.ntmps172
 go_wp2_with (first | (go_at_call 215;refine hl.mono ?_;rintro e w' ⟨rfl,rfl⟩) | (go_at_call 214;refine hp.mono ?_;rintro e w' ⟨rfl,n,os,rfl⟩))
 go_end0
 exact ⟨rfl,n,os,rfl⟩
theorem sort172_nil (w:World):Calls Tryz.prog 172 #[.slice none 0 0,.func (.func 173) #[] #[]] w fun e w'=>e = .returned (.tuple #[]) ∧ Go.RowKit.Below w.heap.size w w':=by
 have e14:=Tryz.call214;have e15:=Tryz.call215;have hp:=fun lim W=>AnyF.pdqsortCmpFunc_none Tryz.pdq214 none 0 lim (.func (.func 173) #[] #[]) W
 have hl:∀ W,Calls Tryz.prog 215 #[.int .u64 0] W fun e w'=>e = .returned (.int .i64 (Lib.bitLen 0:Nat)) ∧ w' = W:=fun W=>by
  have h:=Any.bits_Len (SlLaysF0.n15.bits Tryz.bits215) 0 W (by omega) (by omega);exact h
 go_enter Tryz.func172,Tryz.ntmps172
 go_wp2_with (first | (go_at_call 215;refine (hl _).mono ?_;rintro e w' ⟨rfl,rfl⟩) | (go_at_call 214;refine (hp _ _).mono ?_;rintro e w' ⟨rfl,rfl⟩))
 go_end0
 exact ⟨rfl,Go.RowKit.Below.refl _ _⟩
theorem srt172_173 : SortLaw Tryz.prog 172 173 7 RawTEvent.v (fun x y:RawTEvent=>decide (x.dot_dev_ < y.dot_dev_) || (decide (x.dot_dev_ = y.dot_dev_) && decide (x.dot_n_ < y.dot_n_))):=SortLaw.of swocf172 ltcf172 (fun _=>rfl) sort172_nil (fun blk off cap d w hH hblk hsz=>sort172_eq blk off cap d w hH hblk hsz)
theorem rlt172 (x y:TEvent) (r r':RawTEvent) (h1:RawTEvent.R x r) (h2:RawTEvent.R y r'):((fun x y:RawTEvent=>decide (x.dot_dev_ < y.dot_dev_) || (decide (x.dot_dev_ = y.dot_dev_) && decide (x.dot_n_ < y.dot_n_)))) r r' = ltEvent x y:=by simp only [RawTEvent.R] at h1 h2;simp [h1,h2,ltEvent]
def cf210 (x y:TDot):Int:=if Lib.compareInt x.dev y.dev ≠ 0 then Lib.compareInt x.dev y.dev else Lib.compareInt x.n y.n
theorem callcf210 (x y:TDot) (W:World):Calls Tryz.prog 120 #[.agg #[.int .u16 x.dev,.int .u64 x.n],.agg #[.int .u16 y.dev,.int .u64 y.n]] W fun e w'=>e = .returned (.int .i64 (cf210 x y)) ∧ ∃ q os',w' = grow (W.drewN q) os':=by
 have c1:=fun W'=>cmpu16 x.dev y.dev W'
 have c2:=fun W'=>cmpu64 x.n y.n W'
 unfold cf210
 generalize Lib.compareInt x.dev y.dev = r1 at c1 ⊢
 generalize Lib.compareInt x.n y.n = r2 at c2 ⊢
 by_cases h:r1 = 0
 ·subst h
  go_enter Tryz.func120,Tryz.ntmps120
  go_wp2_with (first | (go_at_call 177;refine (c1 _).mono ?_;rintro e w' ⟨rfl,rfl⟩) | (go_at_call 178;refine (c2 _).mono ?_;rintro e w' ⟨rfl,rfl⟩))
  go_ret
  exact ⟨by simp,0,_,by rw [alloc_eq_grow,alloc_eq_grow,grow_grow];rfl⟩
 ·go_enter Tryz.func120,Tryz.ntmps120
  go_wp2_with (first | (go_at_call 177;refine (c1 _).mono ?_;rintro e w' ⟨rfl,rfl⟩) | (go_at_call 178;refine (c2 _).mono ?_;rintro e w' ⟨rfl,rfl⟩))
  go_ret
  exact ⟨by simp [h],0,_,by rw [alloc_eq_grow,alloc_eq_grow,grow_grow];rfl⟩
theorem ltcf210 (x y:TDot):ltOf cf210 x y = ltDot x y:=by
 unfold ltOf cf210 Lib.compareInt ltDot;rw [Bool.eq_iff_iff];simp only [decide_eq_true_eq,Bool.or_eq_true,Bool.and_eq_true]
 split <;> (repeat' split) <;> omega
theorem swocf210 : SWO (ltOf cf210) where
 irrefl x:=by rw [ltcf210];simp [ltDot]
 trans x y z h1 h2:=by rw [ltcf210] at *;simp [ltDot] at *;omega
 ntrans x y z h1 h2:=by rw [ltcf210] at *;simp [ltDot] at *;omega
instance inhcf210 : Inhabited TDot:=⟨⟨0,0⟩⟩
theorem layscf210 (blk off size:Nat) (w:World):CmpLays Tryz.prog 120 #[] TDot.v 2 cf210 blk off size w:=fun _ _ _ _ x y=>callcf210 x y _
set_option maxHeartbeats 2000000 in
set_option maxRecDepth 100000 in
theorem sort210_eq (blk off cap:Nat) (d:Array TDot) (w:World) (hH:HoldsK TDot.v 2 w blk off d) (hblk:blk < w.heap.size) (hsz:d.size < 4611686018427387904) :
  Calls Tryz.prog 210 #[.slice (some ⟨blk,off,none⟩) d.size cap,.func (.func 120) #[] #[]] w fun e w'=>e = .returned (.tuple #[]) ∧ ∃ n os,w' = sortWorldK TDot.v 2 w blk off n (pdq (ltOf cf210) d 0 d.size (Lib.bitLen d.size) true true) os:=by
 have eg:∀ args w,(callFunc 120 args).run Tryz.prog w = .ok (.enter 120 args) w:=Tryz.call120;have e14:=Tryz.call241;have e15:=Tryz.call215;have hlim:Lib.bitLen d.size < 4611686018427387904:=Nat.lt_of_le_of_lt (Lib.bitLen_le d.size 62 (by omega) (by omega)) (by omega);have hp:=AnyQ.pdqsortCmpFunc_all Tryz.pdq241 2 Tryz.isAgg31 Tryz.sizeOf31 TDot.v cf210 120 #[] swocf210 blk off cap d w eg (layscf210 blk off d.size w) ⟨fun _=>rfl,TDot.v1,hH,hblk⟩ (d.size + 1) 0 d.size (Lib.bitLen d.size) d w (by omega) rfl (SWK.start hH) (Nat.zero_le _) (Nat.le_refl _) hsz hlim (Or.inl rfl)
 change Calls Tryz.prog 241 _ _ _ at hp
 have hl:Calls Tryz.prog 215 #[.int .u64 (d.size:Int)] w fun e w'=>e = .returned (.int .i64 (Lib.bitLen d.size:Nat)) ∧ w' = w:=by
  have h:=Any.bits_Len (SlLaysF0.n15.bits Tryz.bits215) (d.size:Int) w (by omega) (by omega)
  rwa [Int.toNat_natCast] at h
 have wr:IntKind.u64.wrap (d.size:Int) = d.size:=by simp [IntKind.wrap,IntKind.bits,IntKind.signed];omega
 clear hH
 go_enter Tryz.func210,Tryz.ntmps210
 go_wp2_with (first | (go_at_call 215;refine hl.mono ?_;rintro e w' ⟨rfl,rfl⟩) | (go_at_call 241;refine hp.mono ?_;rintro e w' ⟨rfl,n,os,rfl⟩))
 go_end0
 exact ⟨rfl,n,os,rfl⟩
theorem sort210_nil (w:World):Calls Tryz.prog 210 #[.slice none 0 0,.func (.func 120) #[] #[]] w fun e w'=>e = .returned (.tuple #[]) ∧ Go.RowKit.Below w.heap.size w w':=by
 have e14:=Tryz.call241;have e15:=Tryz.call215;have hp:=fun lim W=>AnyF.pdqsortCmpFunc_none Tryz.pdq241 none 0 lim (.func (.func 120) #[] #[]) W
 have hl:∀ W,Calls Tryz.prog 215 #[.int .u64 0] W fun e w'=>e = .returned (.int .i64 (Lib.bitLen 0:Nat)) ∧ w' = W:=fun W=>by
  have h:=Any.bits_Len (SlLaysF0.n15.bits Tryz.bits215) 0 W (by omega) (by omega);exact h
 go_enter Tryz.func210,Tryz.ntmps210
 go_wp2_with (first | (go_at_call 215;refine (hl _).mono ?_;rintro e w' ⟨rfl,rfl⟩) | (go_at_call 241;refine (hp _ _).mono ?_;rintro e w' ⟨rfl,rfl⟩))
 go_end0
 exact ⟨rfl,Go.RowKit.Below.refl _ _⟩
theorem srt210_120 : SortLaw Tryz.prog 210 120 2 TDot.v ltDot:=SortLaw.of swocf210 ltcf210 (fun _=>rfl) sort210_nil (fun blk off cap d w hH hblk hsz=>sort210_eq blk off cap d w hH hblk hsz)
structure RawTPart where
 dev_:Int
 c1:Value
 h1:c1.oneCell' = true
def RawTPart.v (r:RawTPart):List Value:=[.int .u16 r.dev_,r.c1]
theorem RawTPart.v1 (r:RawTPart):∀ u ∈ r.v,u.oneCell' = true:=by
 intro u hu;simp only [RawTPart.v,List.mem_cons,List.not_mem_nil,or_false] at hu;rcases hu with rfl | rfl
 ·rfl
 ·exact r.h1
def RawTPart.R (x:TPart) (r:RawTPart):Prop:=r.dev_ = x.dev
theorem RawTPart.raw (w:World) (S:Nat → Prop) (x:TPart) (us:List Value) (hl:us.length = 2) (h:∀ (j:Nat) (d:DV) (u:Value),(TPart.e x)[j]? = some d → us[j]? = some u → DRd w S d u):∃ r:RawTPart,r.v = us ∧ RawTPart.R x r:=by
 match us,hl with
 | [u0,u1],_=>
  refine ⟨⟨x.dev,u1,(h 1 _ u1 rfl rfl).one⟩,?_,rfl⟩;have e0:=h 0 _ u0 rfl rfl
  cases e0
  rfl
def cf212 (x y:RawTPart):Int:=Lib.compareInt x.dev_ y.dev_
theorem callcf212 (x y:RawTPart) (W:World):Calls Tryz.prog 213 #[.agg #[.int .u16 x.dev_,x.c1],.agg #[.int .u16 y.dev_,y.c1]] W fun e w'=>e = .returned (.int .i64 (cf212 x y)) ∧ ∃ q os',w' = grow (W.drewN q) os':=by
 have c1:=fun W'=>cmpu16 x.dev_ y.dev_ W'
 unfold cf212
 generalize Lib.compareInt x.dev_ y.dev_ = r1 at c1 ⊢
 go_enter Tryz.func213,Tryz.ntmps213
 go_wp2_with (go_at_call 177;refine (c1 _).mono ?_;rintro e w' ⟨rfl,rfl⟩)
 go_ret
 exact ⟨rfl,0,_,by rw [alloc_eq_grow,alloc_eq_grow,grow_grow];rfl⟩
theorem ltcf212 (x y:RawTPart):ltOf cf212 x y = (fun x y:RawTPart=>decide (x.dev_ < y.dev_)) x y:=by
 unfold ltOf cf212 Lib.compareInt ;rw [Bool.eq_iff_iff];simp only [decide_eq_true_eq,Bool.or_eq_true,Bool.and_eq_true]
 split <;> (repeat' split) <;> omega
theorem swocf212 : SWO (ltOf cf212) where
 irrefl x:=by rw [ltcf212];simp []
 trans x y z h1 h2:=by rw [ltcf212] at *;simp [] at *;omega
 ntrans x y z h1 h2:=by rw [ltcf212] at *;simp [] at *;omega
instance inhcf212 : Inhabited RawTPart:=⟨⟨0,.int .u64 0,rfl⟩⟩
theorem layscf212 (blk off size:Nat) (w:World):CmpLays Tryz.prog 213 #[] RawTPart.v 2 cf212 blk off size w:=fun _ _ _ _ x y=>callcf212 x y _
set_option maxHeartbeats 2000000 in
set_option maxRecDepth 100000 in
theorem sort212_eq (blk off cap:Nat) (d:Array RawTPart) (w:World) (hH:HoldsK RawTPart.v 2 w blk off d) (hblk:blk < w.heap.size) (hsz:d.size < 4611686018427387904) :
  Calls Tryz.prog 212 #[.slice (some ⟨blk,off,none⟩) d.size cap,.func (.func 213) #[] #[]] w fun e w'=>e = .returned (.tuple #[]) ∧ ∃ n os,w' = sortWorldK RawTPart.v 2 w blk off n (pdq (ltOf cf212) d 0 d.size (Lib.bitLen d.size) true true) os:=by
 have eg:∀ args w,(callFunc 213 args).run Tryz.prog w = .ok (.enter 213 args) w:=Tryz.call213;have e14:=Tryz.call242;have e15:=Tryz.call215;have hlim:Lib.bitLen d.size < 4611686018427387904:=Nat.lt_of_le_of_lt (Lib.bitLen_le d.size 62 (by omega) (by omega)) (by omega);have hp:=AnyQ.pdqsortCmpFunc_all Tryz.pdq242 2 Tryz.isAgg80 Tryz.sizeOf80 RawTPart.v cf212 213 #[] swocf212 blk off cap d w eg (layscf212 blk off d.size w) ⟨fun _=>rfl,RawTPart.v1,hH,hblk⟩ (d.size + 1) 0 d.size (Lib.bitLen d.size) d w (by omega) rfl (SWK.start hH) (Nat.zero_le _) (Nat.le_refl _) hsz hlim (Or.inl rfl)
 change Calls Tryz.prog 242 _ _ _ at hp
 have hl:Calls Tryz.prog 215 #[.int .u64 (d.size:Int)] w fun e w'=>e = .returned (.int .i64 (Lib.bitLen d.size:Nat)) ∧ w' = w:=by
  have h:=Any.bits_Len (SlLaysF0.n15.bits Tryz.bits215) (d.size:Int) w (by omega) (by omega)
  rwa [Int.toNat_natCast] at h
 have wr:IntKind.u64.wrap (d.size:Int) = d.size:=by simp [IntKind.wrap,IntKind.bits,IntKind.signed];omega
 clear hH
 go_enter Tryz.func212,Tryz.ntmps212
 go_wp2_with (first | (go_at_call 215;refine hl.mono ?_;rintro e w' ⟨rfl,rfl⟩) | (go_at_call 242;refine hp.mono ?_;rintro e w' ⟨rfl,n,os,rfl⟩))
 go_end0
 exact ⟨rfl,n,os,rfl⟩
theorem sort212_nil (w:World):Calls Tryz.prog 212 #[.slice none 0 0,.func (.func 213) #[] #[]] w fun e w'=>e = .returned (.tuple #[]) ∧ Go.RowKit.Below w.heap.size w w':=by
 have e14:=Tryz.call242;have e15:=Tryz.call215;have hp:=fun lim W=>AnyF.pdqsortCmpFunc_none Tryz.pdq242 none 0 lim (.func (.func 213) #[] #[]) W
 have hl:∀ W,Calls Tryz.prog 215 #[.int .u64 0] W fun e w'=>e = .returned (.int .i64 (Lib.bitLen 0:Nat)) ∧ w' = W:=fun W=>by
  have h:=Any.bits_Len (SlLaysF0.n15.bits Tryz.bits215) 0 W (by omega) (by omega);exact h
 go_enter Tryz.func212,Tryz.ntmps212
 go_wp2_with (first | (go_at_call 215;refine (hl _).mono ?_;rintro e w' ⟨rfl,rfl⟩) | (go_at_call 242;refine (hp _ _).mono ?_;rintro e w' ⟨rfl,rfl⟩))
 go_end0
 exact ⟨rfl,Go.RowKit.Below.refl _ _⟩
theorem srt212_213 : SortLaw Tryz.prog 212 213 2 RawTPart.v (fun x y:RawTPart=>decide (x.dev_ < y.dev_)):=SortLaw.of swocf212 ltcf212 (fun _=>rfl) sort212_nil (fun blk off cap d w hH hblk hsz=>sort212_eq blk off cap d w hH hblk hsz)
theorem rlt212 (x y:TPart) (r r':RawTPart) (h1:RawTPart.R x r) (h2:RawTPart.R y r'):((fun x y:RawTPart=>decide (x.dev_ < y.dev_))) r r' = ltPart x y:=by simp only [RawTPart.R] at h1 h2;simp [h1,h2,ltPart]
def cf239 (x y:TRun):Int:=Lib.compareInt x.lo y.lo
theorem callcf239 (x y:TRun) (W:World):Calls Tryz.prog 240 #[.agg #[.int .u64 x.lo,.int .u64 x.hi],.agg #[.int .u64 y.lo,.int .u64 y.hi]] W fun e w'=>e = .returned (.int .i64 (cf239 x y)) ∧ ∃ q os',w' = grow (W.drewN q) os':=by
 have c1:=fun W'=>cmpu64 x.lo y.lo W'
 unfold cf239
 generalize Lib.compareInt x.lo y.lo = r1 at c1 ⊢
 go_enter Tryz.func240,Tryz.ntmps240
 go_wp2_with (go_at_call 178;refine (c1 _).mono ?_;rintro e w' ⟨rfl,rfl⟩)
 go_ret
 exact ⟨rfl,0,_,by rw [alloc_eq_grow,alloc_eq_grow,grow_grow];rfl⟩
theorem ltcf239 (x y:TRun):ltOf cf239 x y = ltRun x y:=by
 unfold ltOf cf239 Lib.compareInt ltRun;rw [Bool.eq_iff_iff];simp only [decide_eq_true_eq,Bool.or_eq_true,Bool.and_eq_true]
 split <;> (repeat' split) <;> omega
theorem swocf239 : SWO (ltOf cf239) where
 irrefl x:=by rw [ltcf239];simp [ltRun]
 trans x y z h1 h2:=by rw [ltcf239] at *;simp [ltRun] at *;omega
 ntrans x y z h1 h2:=by rw [ltcf239] at *;simp [ltRun] at *;omega
instance inhcf239 : Inhabited TRun:=⟨⟨0,0⟩⟩
theorem layscf239 (blk off size:Nat) (w:World):CmpLays Tryz.prog 240 #[] TRun.v 2 cf239 blk off size w:=fun _ _ _ _ x y=>callcf239 x y _
set_option maxHeartbeats 2000000 in
set_option maxRecDepth 100000 in
theorem sort239_eq (blk off cap:Nat) (d:Array TRun) (w:World) (hH:HoldsK TRun.v 2 w blk off d) (hblk:blk < w.heap.size) (hsz:d.size < 4611686018427387904) :
  Calls Tryz.prog 239 #[.slice (some ⟨blk,off,none⟩) d.size cap,.func (.func 240) #[] #[]] w fun e w'=>e = .returned (.tuple #[]) ∧ ∃ n os,w' = sortWorldK TRun.v 2 w blk off n (pdq (ltOf cf239) d 0 d.size (Lib.bitLen d.size) true true) os:=by
 have eg:∀ args w,(callFunc 240 args).run Tryz.prog w = .ok (.enter 240 args) w:=Tryz.call240;have e14:=Tryz.call259;have e15:=Tryz.call215;have hlim:Lib.bitLen d.size < 4611686018427387904:=Nat.lt_of_le_of_lt (Lib.bitLen_le d.size 62 (by omega) (by omega)) (by omega);have hp:=AnyQ.pdqsortCmpFunc_all Tryz.pdq259 2 Tryz.isAgg82 Tryz.sizeOf82 TRun.v cf239 240 #[] swocf239 blk off cap d w eg (layscf239 blk off d.size w) ⟨fun _=>rfl,TRun.v1,hH,hblk⟩ (d.size + 1) 0 d.size (Lib.bitLen d.size) d w (by omega) rfl (SWK.start hH) (Nat.zero_le _) (Nat.le_refl _) hsz hlim (Or.inl rfl)
 change Calls Tryz.prog 259 _ _ _ at hp
 have hl:Calls Tryz.prog 215 #[.int .u64 (d.size:Int)] w fun e w'=>e = .returned (.int .i64 (Lib.bitLen d.size:Nat)) ∧ w' = w:=by
  have h:=Any.bits_Len (SlLaysF0.n15.bits Tryz.bits215) (d.size:Int) w (by omega) (by omega)
  rwa [Int.toNat_natCast] at h
 have wr:IntKind.u64.wrap (d.size:Int) = d.size:=by simp [IntKind.wrap,IntKind.bits,IntKind.signed];omega
 clear hH
 go_enter Tryz.func239,Tryz.ntmps239
 go_wp2_with (first | (go_at_call 215;refine hl.mono ?_;rintro e w' ⟨rfl,rfl⟩) | (go_at_call 259;refine hp.mono ?_;rintro e w' ⟨rfl,n,os,rfl⟩))
 go_end0
 exact ⟨rfl,n,os,rfl⟩
theorem sort239_nil (w:World):Calls Tryz.prog 239 #[.slice none 0 0,.func (.func 240) #[] #[]] w fun e w'=>e = .returned (.tuple #[]) ∧ Go.RowKit.Below w.heap.size w w':=by
 have e14:=Tryz.call259;have e15:=Tryz.call215;have hp:=fun lim W=>AnyF.pdqsortCmpFunc_none Tryz.pdq259 none 0 lim (.func (.func 240) #[] #[]) W
 have hl:∀ W,Calls Tryz.prog 215 #[.int .u64 0] W fun e w'=>e = .returned (.int .i64 (Lib.bitLen 0:Nat)) ∧ w' = W:=fun W=>by
  have h:=Any.bits_Len (SlLaysF0.n15.bits Tryz.bits215) 0 W (by omega) (by omega);exact h
 go_enter Tryz.func239,Tryz.ntmps239
 go_wp2_with (first | (go_at_call 215;refine (hl _).mono ?_;rintro e w' ⟨rfl,rfl⟩) | (go_at_call 259;refine (hp _ _).mono ?_;rintro e w' ⟨rfl,rfl⟩))
 go_end0
 exact ⟨rfl,Go.RowKit.Below.refl _ _⟩
theorem srt239_240 : SortLaw Tryz.prog 239 240 2 TRun.v ltRun:=SortLaw.of swocf239 ltcf239 (fun _=>rfl) sort239_nil (fun blk off cap d w hH hblk hsz=>sort239_eq blk off cap d w hH hblk hsz)
instance inhcf257 : Inhabited TDot:=⟨⟨0,0⟩⟩
end Go.Proofs

