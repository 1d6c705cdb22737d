/- Texts that the walks and laws lean on, side by side. -/
import Derived.Test.YthmblgneimcgpaaGreatProg
import Derived.Shelf.SlGeneric
import Derived.Shelf.SlLaysF0
import Derived.Ground.SlsfProg
import Derived.Shelf.SlSortCmp.WholeK
import Derived.Shelf.SlSortCmp.NoneTotal
import Derived.StillTactics
import Derived.RegionTactic
import Derived.Test.YthmblgneimcgpaaGreatABe2
set_option linter.unusedVariables false
set_option linter.unusedSimpArgs false
namespace Go.Ep
open Go

def r09_Few_l0 (c1:List TPart):Int → M (M.Step Int (M.Ex Unit Bool)):=fun i12=>
 cond ((decide (i12 < (List.length c1:Int))))
  (M.bind (M.idx c1 i12) fun x14=>
  cond ((decide (30 < (List.length x14.runs:Int))))
   (M.pure (.done (.ret false)))
   (M.pure (.next (IntKind.i64.wrap (i12 + 1)))))
  (M.pure (.done (.brk ())))
def r09_Few (c1:List TPart):M Bool:=
 cond ((decide (30 < (List.length c1:Int))))
  (M.pure false)
  (M.bind (M.loop (r09_Few_l0 c1) 0) (M.exk (fun _=>
  M.pure true)))

def l25_few_l0 (l1:List L25Act):Int → M (M.Step Int (M.Ex Unit Bool)):=fun i_16=>
 cond ((decide (i_16 < (List.length l1:Int))))
  (M.bind (M.idx l1 i_16) fun x18=>
  M.bind (M.det (r09_Few x18.c)) fun v20=>
  cond (!v20)
   (M.pure (.done (.ret false)))
   (M.pure (.next (IntKind.i64.wrap (i_16 + 1)))))
  (M.pure (.done (.brk ())))
def l25_few (l1:List L25Act):M Bool:=
 cond ((decide (30 < (List.length l1:Int))))
  (M.pure false)
  (M.bind (M.loop (l25_few_l0 l1) 0) (M.exk (fun _=>
  M.pure true)))

def cmp_isNaN_uint16 (x1:Int):M Bool:=
 M.pure (!decide (x1 = x1))

def cmp_Less_uint16 (x1:Int) (y2:Int):M Bool:=
 M.bind (M.bind (M.det (cmp_isNaN_uint16 x1)) fun v4=>
 cond v4
  (M.bind (M.det (cmp_isNaN_uint16 y2)) fun v7=>
  cond (!v7)
   (M.pure true)
   (M.pure (decide (x1 < y2))))
  (M.pure (decide (x1 < y2)))) (fun v3=>
 M.pure v3)

def math_bits_Len64 (x1:Int):M Int:=
 M.bind (cond (decide (4294967296 ≤ x1))
  (M.pure (((Int.fdiv x1 (2 ^ 32)),32)))
  (M.pure (x1,0))) (fun ⟨x2,n3⟩=>
 M.bind (cond (decide (65536 ≤ x2))
  (M.pure (((Int.fdiv x2 (2 ^ 16)),(IntKind.i64.wrap (n3 + 16)))))
  (M.pure (x2,n3))) (fun ⟨x5,n6⟩=>
 M.bind (cond (decide (256 ≤ x5))
  (M.pure (((Int.fdiv x5 (2 ^ 8)),(IntKind.i64.wrap (n6 + 8)))))
  (M.pure (x5,n6))) (fun ⟨x8,n9⟩=>
 M.bind (M.idx (bytesL (⟨#[0,1,2,2,3,3,3,3,4,4,4,4,4,4,4,4,5,5,5,5,5,5,5,5,5,5,5,5,5,5,5,5,6,6,6,6,6,6,6,6,6,6,6,6,6,6,6,6,6,6,6,6,6,6,6,6,6,6,6,6,6,6,6,6,7,7,7,7,7,7,7,7,7,7,7,7,7,7,7,7,7,7,7,7,7,7,7,7,7,7,7,7,7,7,7,7,7,7,7,7,7,7,7,7,7,7,7,7,7,7,7,7,7,7,7,7,7,7,7,7,7,7,7,7,7,7,7,7,8,8,8,8,8,8,8,8,8,8,8,8,8,8,8,8,8,8,8,8,8,8,8,8,8,8,8,8,8,8,8,8,8,8,8,8,8,8,8,8,8,8,8,8,8,8,8,8,8,8,8,8,8,8,8,8,8,8,8,8,8,8,8,8,8,8,8,8,8,8,8,8,8,8,8,8,8,8,8,8,8,8,8,8,8,8,8,8,8,8,8,8,8,8,8,8,8,8,8,8,8,8,8,8,8,8,8,8,8,8,8,8,8,8,8,8,8,8,8,8,8,8,8,8,8,8,8,8]⟩:ByteArray)) (IntKind.u8.wrap x8)) fun b11=>
 M.pure ((IntKind.i64.wrap (n9 + (IntKind.i64.wrap b11)))))))

def math_bits_Len (x1:Int):M Int:=
 M.bind (M.det (math_bits_Len64 x1)) fun v2=>
 M.pure v2

def slices_nextPowerOfTwo (length1:Int):M Int:=
 M.bind (M.det (math_bits_Len (IntKind.u64.wrap length1))) fun v2=>
 M.need ((0:Int) ≤ v2) <|
 M.pure ((IntKind.u64.wrap (1 * 2 ^ (min (Int.toNat v2) 64))))

def slices_xorshift_Next_o (x_1:Int):M (Int × Int):=
 M.pure (((bXor .u64 ((bXor .u64 ((bXor .u64 x_1 (IntKind.u64.wrap (x_1 * 2 ^ 13)))) ((Int.fdiv ((bXor .u64 x_1 (IntKind.u64.wrap (x_1 * 2 ^ 13)))) (2 ^ 7))))) ((IntKind.u64.wrap (((bXor .u64 ((bXor .u64 x_1 (IntKind.u64.wrap (x_1 * 2 ^ 13)))) ((Int.fdiv ((bXor .u64 x_1 (IntKind.u64.wrap (x_1 * 2 ^ 13)))) (2 ^ 7))))) * 2 ^ 17)))),(bXor .u64 ((bXor .u64 ((bXor .u64 x_1 (IntKind.u64.wrap (x_1 * 2 ^ 13)))) ((Int.fdiv ((bXor .u64 x_1 (IntKind.u64.wrap (x_1 * 2 ^ 13)))) (2 ^ 7))))) ((IntKind.u64.wrap (((bXor .u64 ((bXor .u64 x_1 (IntKind.u64.wrap (x_1 * 2 ^ 13)))) ((Int.fdiv ((bXor .u64 x_1 (IntKind.u64.wrap (x_1 * 2 ^ 13)))) (2 ^ 7))))) * 2 ^ 17))))))

def runs_Norm_l0 (l1:List TRun):Int × List TRun → M (M.Step (Int × List TRun) (List TRun)):=fun ⟨v23,some24⟩=>
 cond ((decide (v23 < (List.length l1:Int))))
  (M.bind (M.bind (M.idx l1 v23) fun x27=>
  M.bind (cond (decide (0 < x27.lo))
   (cond (decide (x27.lo ≤ x27.hi))
    (M.pure (decide (x27.hi ≤ 281474976710655)))
    (M.pure false))
   (M.pure false)) (fun v29=>
  cond v29
   (M.need ((List.length some24 + List.length ([x27])) * 16 ≤ 140737488355328) <|
   M.pure (some24 ++ [x27]))
   (M.pure some24))) (fun some26=>
  M.pure (.next (((IntKind.i64.wrap (v23 + 1)),some26)))))
  (M.pure (.done some24))
def runs_Norm_l1 (some2:List TRun) (s34:List TRun):Int × List TRun → M (M.Step (Int × List TRun) (List TRun)):=fun ⟨v69,out70⟩=>
 cond ((decide (v69 < ((List.length some2):Int))))
  (M.bind (M.bind (M.idx s34 v69) fun x73=>
  M.bind (cond ((decide (0 ≤ ((IntKind.i64.wrap (((List.length out70):Int) - 1))))))
   (M.bind (M.idx out70 ((IntKind.i64.wrap (((List.length out70):Int) - 1)))) fun x77=>
   M.pure ((decide (x73.lo ≤ (IntKind.u64.wrap (x77.hi + 1))))))
   (M.pure false)) (fun v75=>
  cond v75
   (M.bind (M.idx out70 ((IntKind.i64.wrap (((List.length out70):Int) - 1)))) fun x80=>
   M.bind (M.idx out70 ((IntKind.i64.wrap (((List.length out70):Int) - 1)))) fun x82=>
   M.pure ((List.set out70 ((Int.toNat ((IntKind.i64.wrap (((List.length out70):Int) - 1))))) (⟨x82.lo,(max x80.hi x73.hi)⟩:TRun))))
   (M.need ((List.length out70 + List.length ([x73])) * 16 ≤ 140737488355328) <|
   M.pure (out70 ++ [x73])))) (fun out72=>
  M.pure (.next (((IntKind.i64.wrap (v69 + 1)),out72)))))
  (M.pure (.done out70))
def runs_Norm (l1:List TRun):M (List TRun):=
 M.bind (M.loop (runs_Norm_l0 l1) (0,([]:List TRun))) (fun some2=>
 M.need (List.length some2 < 4611686018427387904)<|M.bind (M.srt ltRun some2) fun s34=>
 M.bind (M.loop (runs_Norm_l1 some2 s34) (0,([]:List TRun))) (fun out38=>
 M.pure out38))

def ctx_order_l0 (m1:List (Int × List TRun)):List Nat × List TPart → M (M.Step (List Nat × List TPart) (List TPart)):=fun ⟨seen28,c29⟩=>
 M.need (∀ i ∈ seen28,i < List.length m1)<|M.bind (M.nxt (List.length m1) seen28) fun o=>match o with
 | none=>
  M.pure (.done c29)
 | some j30=>
  M.bind (M.idx m1 (Int.ofNat j30)) fun kv34=>
  M.bind (M.det (runs_Norm kv34.2)) fun v36=>
  cond ((decide (0 < ((List.length v36):Int))))
   (M.need ((List.length c29 + List.length ([(⟨kv34.1,v36⟩:TPart)])) * 32 ≤ 140737488355328) <|
   M.pure (.next (((seen28 ++ [j30]),(c29 ++ [(⟨kv34.1,v36⟩:TPart)])))))
   (M.pure (.next ((seen28 ++ [j30]),c29)))
def ctx_order (m1:List (Int × List TRun)):M (List TPart):=
 M.bind (M.loop (ctx_order_l0 m1) ([],([]:List TPart))) (fun c3=>
 M.need (List.length c3 < 4611686018427387904)<|M.bind (M.srt ltPart c3) fun s41=>
 M.pure s41)

def ctx_toldF (p:TPart):Option (Int × List TRun):=if 0 < p.dev then some (p.dev,p.runs) else none
def ctx_told (c1:List TPart):M (List (Int × List TRun)):=
 M.need (AL.growOK 16 (List.length c1) (List.filterMap ctx_toldF c1)) <|
 M.pure ((AL.grow ([]:List (Int × List TRun)) (List.filterMap ctx_toldF c1)))

def ctx_Norm (c1:List TPart):M (List TPart):=
 M.bind (M.det (ctx_told c1)) fun v2=>
 M.bind (M.det (ctx_order v2)) fun v5=>
 M.pure v5

def runs_Meet_l0 :List TRun × List TRun × List TRun → M (M.Step (List TRun × List TRun × List TRun) (List TRun)):=fun ⟨a53,b54,out55⟩=>
 M.bind (cond ((decide (0 < (List.length a53:Int))))
  (M.pure ((decide (0 < (List.length b54:Int)))))
  (M.pure false)) (fun v56=>
 cond v56
  (M.bind (M.idx a53 0) fun x59=>
  M.bind (M.idx b54 0) fun x61=>
  M.bind (M.idx a53 0) fun x63=>
  M.bind (M.idx b54 0) fun x65=>
  M.bind (cond ((decide ((max x59.lo x61.lo) ≤ (min x63.hi x65.hi))))
   (M.need ((List.length out55 + List.length ([(⟨(max x59.lo x61.lo),(min x63.hi x65.hi)⟩:TRun)])) * 16 ≤ 140737488355328) <|
   M.pure ((out55 ++ [(⟨(max x59.lo x61.lo),(min x63.hi x65.hi)⟩:TRun)])))
   (M.pure out55)) (fun out67=>
  M.bind (M.idx a53 0) fun x70=>
  M.bind (M.idx b54 0) fun x72=>
  cond (decide (x70.hi < x72.hi))
   (M.need ((0:Int) ≤ 1 ∧ (1:Int) ≤ (List.length a53:Int) ∧ (List.length a53:Int) ≤ (List.length a53:Int)) <|
   M.pure (.next (((List.drop (Int.toNat 1) (List.take (Int.toNat (List.length a53:Int)) a53)),b54,out67))))
   (M.need ((0:Int) ≤ 1 ∧ (1:Int) ≤ (List.length b54:Int) ∧ (List.length b54:Int) ≤ (List.length b54:Int)) <|
   M.pure (.next ((a53,(List.drop (Int.toNat 1) (List.take (Int.toNat (List.length b54:Int)) b54)),out67))))))
  (M.pure (.done out55)))
def runs_Meet (a1:List TRun) (b2:List TRun):M (List TRun):=
 M.bind (M.det (runs_Norm a1)) fun v3=>
 M.bind (M.det (runs_Norm b2)) fun v5=>
 M.bind (M.loop runs_Meet_l0 (v3,v5,([]:List TRun))) (fun out7=>
 M.pure out7)

def ctx_each_runs_Meet_l0 (v6:List (Int × List TRun)):List Nat × (List (Int × List TRun)) → M (M.Step (List Nat × (List (Int × List TRun))) (List (Int × List TRun))):=fun ⟨seen32,v33⟩=>
 M.need (∀ i ∈ seen32,i < List.length v33)<|M.bind (M.nxt (List.length v33) seen32) fun o=>match o with
 | none=>
  M.pure (.done v33)
 | some j34=>
  M.bind (M.idx v33 (Int.ofNat j34)) fun kv38=>
  M.bind (M.det (runs_Meet kv38.2 (AL.getZ v6 kv38.1 ([]:List TRun)))) fun v40=>
  M.need (AL.has v33 kv38.1 = true) <|
  M.pure (.next ((seen32 ++ [j34]),(AL.set v33 kv38.1 v40)))
def ctx_each_runs_Meet (a1:List TPart) (b2:List TPart):M (List TPart):=
 M.bind (M.det (ctx_told a1)) fun v3=>
 M.bind (M.det (ctx_told b2)) fun v6=>
 M.bind (M.loop (ctx_each_runs_Meet_l0 v6) ([],v3)) (fun v9=>
 M.bind (M.det (ctx_order v9)) fun v44=>
 M.pure v44)

def ctx_Meet (a1:List TPart) (b2:List TPart):M (List TPart):=
 M.bind (M.det (ctx_each_runs_Meet a1 b2)) fun v3=>
 M.pure v3

def slices_Grow_Ctx_Part_nil (n1:Int):M (List TPart):=
 cond (decide (n1 < 0))
  M.fail
  (M.bind (cond ((decide (0 < ((IntKind.i64.wrap (n1 - (IntKind.i64.wrap (0 - 0))))))))
   (M.need (0 < ((IntKind.i64.wrap (n1 - (IntKind.i64.wrap (0 - 0))))) ∧ ((IntKind.i64.wrap (n1 - (IntKind.i64.wrap (0 - 0))))) * 32 ≤ 140737488355328) <|
   M.need ((0:Int) ≤ 0 ∧ (0:Int) ≤ 0 ∧ 0 ≤ (List.length ((List.replicate (Int.toNat ((IntKind.i64.wrap (n1 - (IntKind.i64.wrap (0 - 0)))))) (⟨0,([]:List TRun)⟩:TPart))):Int)) <|
   M.pure ((List.take (Int.toNat 0) ((List.replicate (Int.toNat ((IntKind.i64.wrap (n1 - (IntKind.i64.wrap (0 - 0)))))) (⟨0,([]:List TRun)⟩:TPart))))))
   (M.pure ([]))) (fun v3=>
  M.pure v3))

def slices_Concat_Ctx_Part_l0 (slices1:List (List TPart)):Int × Int → M (M.Step (Int × Int) Int):=fun ⟨size13,v14⟩=>
 cond ((decide (v14 < (List.length slices1:Int))))
  (M.bind (M.idx slices1 v14) fun x16=>
  cond ((decide (((IntKind.i64.wrap (size13 + (List.length x16:Int)))) < 0)))
   M.fail
   (M.pure (.next (((IntKind.i64.wrap (size13 + (List.length x16:Int))),(IntKind.i64.wrap (v14 + 1)))))))
  (M.pure (.done size13))
def slices_Concat_Ctx_Part_l1 (slices1:List (List TPart)):Int × List TPart → M (M.Step (Int × List TPart) (List TPart)):=fun ⟨v32,v33⟩=>
 cond ((decide (v32 < (List.length slices1:Int))))
  (M.bind (M.idx slices1 v32) fun x35=>
  M.need ((List.length v33 + List.length x35) * 32 ≤ 140737488355328) <|
  M.pure (.next (((IntKind.i64.wrap (v32 + 1)),(v33 ++ x35)))))
  (M.pure (.done v33))
def slices_Concat_Ctx_Part (slices1:List (List TPart)):M (List TPart):=
 M.bind (M.loop (slices_Concat_Ctx_Part_l0 slices1) (0,0)) (fun size2=>
 M.bind (M.det (slices_Grow_Ctx_Part_nil size2)) fun v19=>
 M.bind (M.loop (slices_Concat_Ctx_Part_l1 slices1) (0,v19)) (fun v21=>
 M.pure v21))

def ctx_Join (a1:List TPart) (b2:List TPart):M (List TPart):=
 M.bind (M.det (slices_Concat_Ctx_Part ([a1,b2]))) fun v3=>
 M.bind (M.det (ctx_Norm v3)) fun v5=>
 M.pure v5

def r06_Eq_l0 (a1:List TRun) (b2:List TRun):Int → M (M.Step Int (M.Ex Unit Bool)):=fun i17=>
 cond ((decide (i17 < (List.length a1:Int))))
  (M.bind (M.idx a1 i17) fun x19=>
  M.bind (M.idx b2 i17) fun x21=>
  cond ((!(decide (x19.lo = x21.lo) && decide (x19.hi = x21.hi))))
   (M.pure (.done (.ret false)))
   (M.pure (.next (IntKind.i64.wrap (i17 + 1)))))
  (M.pure (.done (.brk ())))
def r06_Eq (a1:List TRun) (b2:List TRun):M Bool:=
 cond ((!decide ((List.length a1:Int) = (List.length b2:Int))))
  (M.pure false)
  (M.bind (M.loop (r06_Eq_l0 a1 b2) 0) (M.exk (fun _=>
  M.pure true)))

def r09_Eq_l0 (a1:List TPart) (b2:List TPart):Int → M (M.Step Int (M.Ex Unit Bool)):=fun i33=>
 cond ((decide (i33 < (List.length a1:Int))))
  (M.bind (M.bind (M.idx a1 i33) fun x36=>
  M.bind (M.idx b2 i33) fun x38=>
  cond (!decide (x36.dev = x38.dev))
   (M.pure true)
   (M.bind (M.idx a1 i33) fun x41=>
   M.bind (M.idx b2 i33) fun x43=>
   M.bind (M.det (r06_Eq x41.runs x43.runs)) fun v45=>
   M.pure (!v45))) (fun v35=>
  cond v35
   (M.pure (.done (.ret false)))
   (M.pure (.next (IntKind.i64.wrap (i33 + 1))))))
  (M.pure (.done (.brk ())))
def r09_Eq (a1:List TPart) (b2:List TPart):M Bool:=
 cond ((!decide ((List.length a1:Int) = (List.length b2:Int))))
  (M.pure false)
  (M.bind (M.loop (r09_Eq_l0 a1 b2) 0) (M.exk (fun _=>
  M.pure true)))

def r07_Good (d1:TDot):M Bool:=
 M.bind (cond (decide (1 ≤ d1.dev))
  (cond (decide (1 ≤ d1.n))
   (M.pure (decide (d1.n < 281474976710656)))
   (M.pure false))
  (M.pure false)) (fun v2=>
 M.pure v2)

def r06_may (x1:TRun):M Bool:=
 M.bind (cond (decide (1 ≤ x1.lo))
  (cond (decide (x1.lo ≤ x1.hi))
   (M.pure (decide (x1.hi ≤ 281474976710655)))
   (M.pure false))
  (M.pure false)) (fun v2=>
 M.pure v2)

def r06_Has_l0 (l1:List TRun) (n2:Int):Int → M (M.Step Int (M.Ex Unit Bool)):=fun i30=>
 cond ((decide (i30 < (List.length l1:Int))))
  (M.bind (M.bind (M.idx l1 i30) fun x33=>
  M.bind (M.det (r06_may x33)) fun v35=>
  cond v35
   (M.bind (M.idx l1 i30) fun x38=>
   cond (decide (x38.lo ≤ n2))
    (M.bind (M.idx l1 i30) fun x41=>
    M.pure (decide (n2 ≤ x41.hi)))
    (M.pure false))
   (M.pure false)) (fun v32=>
  cond v32
   (M.pure (.done (.ret true)))
   (M.pure (.next (IntKind.i64.wrap (i30 + 1))))))
  (M.pure (.done (.brk ())))
def r06_Has (l1:List TRun) (n2:Int):M Bool:=
 M.bind (M.loop (r06_Has_l0 l1 n2) 0) (M.exk (fun _=>
 M.pure false))

def r06_put_l0 (l1:List Int) (n2:Int):Bool × Int × List Int → M (M.Step (Bool × Int × List Int) (Bool × List Int)):=fun ⟨done43,i44,out45⟩=>
 cond ((decide (i44 < (List.length l1:Int))))
  (M.bind (M.bind (cond (!done43)
   (M.bind (M.idx l1 i44) fun x51=>
   M.pure (decide (n2 ≤ x51)))
   (M.pure false)) (fun v49=>
  M.bind (cond v49
   (M.need ((List.length out45 + List.length ([n2])) * 8 ≤ 140737488355328) <|
   M.pure (true,(out45 ++ [n2])))
   (M.pure (done43,out45))) (fun ⟨done53,out54⟩=>
  M.bind (M.idx l1 i44) fun x57=>
  cond (!decide (x57 = n2))
   (M.bind (M.idx l1 i44) fun x60=>
   M.need ((List.length out54 + List.length ([x60])) * 8 ≤ 140737488355328) <|
   M.pure (done53,(out54 ++ [x60])))
   (M.pure (done53,out54))))) (fun ⟨done47,out48⟩=>
  M.pure (.next ((done47,(IntKind.i64.wrap (i44 + 1)),out48)))))
  (M.pure (.done (done43,out45)))
def r06_put (l1:List Int) (n2:Int):M (List Int):=
 M.bind (M.loop (r06_put_l0 l1 n2) (false,0,([]:List Int))) (fun ⟨done3,out4⟩=>
 M.bind (cond (!done3)
  (M.need ((List.length out4 + List.length ([n2])) * 8 ≤ 140737488355328) <|
  M.pure (out4 ++ [n2]))
  (M.pure out4)) (fun out63=>
 M.pure out63))

def r06_points_l0 (a1:List TRun) (b2:List TRun):List Int × Int → M (M.Step (List Int × Int) (List Int)):=fun ⟨out38,i39⟩=>
 cond ((decide (i39 < (((List.length ((([]:List TRun) ++ a1) ++ b2)):Int)))))
  (M.bind (M.bind (M.idx (((([]:List TRun) ++ a1) ++ b2)) i39) fun x42=>
  M.bind (M.det (r06_may x42)) fun v44=>
  cond v44
   (M.bind (M.idx (((([]:List TRun) ++ a1) ++ b2)) i39) fun x47=>
   M.bind (M.det (r06_put out38 x47.lo)) fun v49=>
   M.bind (M.idx (((([]:List TRun) ++ a1) ++ b2)) i39) fun x51=>
   M.bind (M.det (r06_put v49 (IntKind.u64.wrap (x51.hi + 1)))) fun v53=>
   M.pure v53)
   (M.pure out38)) (fun out41=>
  M.pure (.next ((out41,(IntKind.i64.wrap (i39 + 1)))))))
  (M.pure (.done out38))
def r06_points (a1:List TRun) (b2:List TRun):M (List Int):=
 M.need ((List.length ([]:List TRun) + List.length a1) * 16 ≤ 140737488355328) <|
 M.need ((List.length (([]:List TRun) ++ a1) + List.length b2) * 16 ≤ 140737488355328) <|
 M.bind (M.loop (r06_points_l0 a1 b2) (([]:List Int),0)) (fun out5=>
 M.pure out5)

def r06_set_l0 (v4:List Int) (a1:List TRun) (b2:List TRun) (how3:Int):Int × List TRun → M (M.Step (Int × List TRun) (List TRun)):=fun ⟨i85,out86⟩=>
 cond ((decide ((IntKind.i64.wrap (i85 + 1)) < (List.length v4:Int))))
  (M.bind (M.bind (M.idx v4 i85) fun x89=>
  M.bind (M.det (r06_Has a1 x89)) fun v91=>
  M.bind (M.idx v4 i85) fun x93=>
  M.bind (M.det (r06_Has b2 x93)) fun v95=>
  M.bind (cond v91
   (M.pure true)
   (M.pure v95)) (fun in97=>
  M.bind (cond (decide (how3 = 1))
   (M.bind (cond v91
    (M.pure v95)
    (M.pure false)) (fun in101=>
   M.pure in101))
   (M.pure in97)) (fun in99=>
  M.bind (cond (decide (how3 = 2))
   (M.bind (cond v91
    (M.pure (!v95))
    (M.pure false)) (fun in105=>
   M.pure in105))
   (M.pure in99)) (fun in103=>
  M.bind (cond in103
   (cond ((decide (0 ≤ ((IntKind.i64.wrap (((List.length out86):Int) - 1))))))
    (M.bind (M.idx out86 ((IntKind.i64.wrap (((List.length out86):Int) - 1)))) fun x110=>
    M.bind (M.idx v4 i85) fun x112=>
    M.pure ((decide ((IntKind.u64.wrap (x110.hi + 1)) = x112))))
    (M.pure false))
   (M.pure false)) (fun v107=>
  cond v107
   (M.bind (M.idx v4 (IntKind.i64.wrap (i85 + 1))) fun x115=>
   M.bind (M.idx out86 ((IntKind.i64.wrap (((List.length out86):Int) - 1)))) fun x117=>
   M.pure ((List.set out86 ((Int.toNat ((IntKind.i64.wrap (((List.length out86):Int) - 1))))) ((⟨x117.lo,(IntKind.u64.wrap (x115 - 1))⟩:TRun)))))
   (cond in103
    (M.bind (M.idx v4 i85) fun x120=>
    M.bind (M.idx v4 (IntKind.i64.wrap (i85 + 1))) fun x122=>
    M.need ((List.length out86 + List.length ([(⟨x120,(IntKind.u64.wrap (x122 - 1))⟩:TRun)])) * 16 ≤ 140737488355328) <|
    M.pure ((out86 ++ [(⟨x120,(IntKind.u64.wrap (x122 - 1))⟩:TRun)])))
    (M.pure out86))))))) (fun out88=>
  M.pure (.next (((IntKind.i64.wrap (i85 + 1)),out88)))))
  (M.pure (.done out86))
def r06_set (a1:List TRun) (b2:List TRun) (how3:Int):M (List TRun):=
 M.bind (M.det (r06_points a1 b2)) fun v4=>
 M.bind (M.loop (r06_set_l0 v4 a1 b2 how3) (0,([]:List TRun))) (fun out6=>
 M.pure out6)

def r06_Join (a1:List TRun) (b2:List TRun):M (List TRun):=
 M.bind (M.det (r06_set a1 b2 0)) fun v3=>
 M.pure v3

def r09_Runs_l0 (c1:List TPart) (dev2:Int):List TRun × Int → M (M.Step (List TRun × Int) (List TRun)):=fun ⟨out28,i29⟩=>
 cond ((decide (i29 < (List.length c1:Int))))
  (M.bind (M.bind (M.bind (M.idx c1 i29) fun x33=>
  cond (decide (x33.dev = dev2))
   (M.pure (!decide (dev2 = 0)))
   (M.pure false)) (fun v32=>
  cond v32
   (M.bind (M.idx c1 i29) fun x37=>
   M.bind (M.det (r06_Join out28 x37.runs)) fun v39=>
   M.pure v39)
   (M.pure out28))) (fun out31=>
  M.pure (.next ((out31,(IntKind.i64.wrap (i29 + 1)))))))
  (M.pure (.done out28))
def r09_Runs (c1:List TPart) (dev2:Int):M (List TRun):=
 M.bind (M.loop (r09_Runs_l0 c1 dev2) (([]:List TRun),0)) (fun out3=>
 M.pure out3)

def r07_Cmp (a1:TDot) (b2:TDot):M Int:=
 cond (((decide (a1.dev = b2.dev) && decide (a1.n = b2.n))))
  (M.pure 0)
  (M.bind (cond (decide (a1.dev < b2.dev))
   (M.pure true)
   (cond (decide (a1.dev = b2.dev))
    (M.pure (decide (a1.n < b2.n)))
    (M.pure false))) (fun v4=>
  cond v4
   (M.pure (-1))
   (M.pure 1)))

def r07_Put_l0 (l1:List TDot) (d2:TDot):Int × List TDot → M (M.Step (Int × List TDot) (List TDot)):=fun ⟨i26,out27⟩=>
 cond ((decide (i26 < (List.length l1:Int))))
  (M.bind (M.bind (M.idx l1 i26) fun x30=>
  M.bind (M.det (r07_Cmp x30 d2)) fun v32=>
  cond (decide (v32 < 0))
   (M.bind (M.idx l1 i26) fun x35=>
   M.need ((List.length out27 + List.length ([x35])) * 16 ≤ 140737488355328) <|
   M.pure (out27 ++ [x35]))
   (M.pure out27)) (fun out29=>
  M.pure (.next (((IntKind.i64.wrap (i26 + 1)),out29)))))
  (M.pure (.done out27))
def r07_Put_l1 (l1:List TDot) (d2:TDot):Int × List TDot → M (M.Step (Int × List TDot) (List TDot)):=fun ⟨i62,out63⟩=>
 cond ((decide (i62 < (List.length l1:Int))))
  (M.bind (M.bind (M.idx l1 i62) fun x66=>
  M.bind (M.det (r07_Cmp x66 d2)) fun v68=>
  cond (decide (0 < v68))
   (M.bind (M.idx l1 i62) fun x71=>
   M.need ((List.length out63 + List.length ([x71])) * 16 ≤ 140737488355328) <|
   M.pure (out63 ++ [x71]))
   (M.pure out63)) (fun out65=>
  M.pure (.next (((IntKind.i64.wrap (i62 + 1)),out65)))))
  (M.pure (.done out63))
def r07_Put (l1:List TDot) (d2:TDot):M (List TDot):=
 M.bind (M.loop (r07_Put_l0 l1 d2) (0,([]:List TDot))) (fun out3=>
 M.need ((List.length out3 + List.length ([d2])) * 16 ≤ 140737488355328) <|
 M.bind (M.loop (r07_Put_l1 l1 d2) (0,(out3 ++ [d2]))) (fun out39=>
 M.pure out39))

def r09_devs_l0 (a1:List TPart):List TDot × Int → M (M.Step (List TDot × Int) (List TDot)):=fun ⟨out16,i17⟩=>
 cond ((decide (i17 < (List.length a1:Int))))
  (M.bind (M.idx a1 i17) fun x19=>
  M.bind (M.det (r07_Put out16 (⟨x19.dev,1⟩:TDot))) fun v21=>
  M.pure (.next ((v21,(IntKind.i64.wrap (i17 + 1))))))
  (M.pure (.done out16))
def r09_devs_l1 (b2:List TPart):List TDot × Int → M (M.Step (List TDot × Int) (List TDot)):=fun ⟨out36,i37⟩=>
 cond ((decide (i37 < (List.length b2:Int))))
  (M.bind (M.idx b2 i37) fun x39=>
  M.bind (M.det (r07_Put out36 (⟨x39.dev,1⟩:TDot))) fun v41=>
  M.pure (.next ((v41,(IntKind.i64.wrap (i37 + 1))))))
  (M.pure (.done out36))
def r09_devs (a1:List TPart) (b2:List TPart):M (List TDot):=
 M.bind (M.loop (r09_devs_l0 a1) (([]:List TDot),0)) (fun out3=>
 M.bind (M.loop (r09_devs_l1 b2) (out3,0)) (fun out23=>
 M.pure out23))

def r06_Meet (a1:List TRun) (b2:List TRun):M (List TRun):=
 M.bind (M.det (r06_set a1 b2 1)) fun v3=>
 M.pure v3

def r06_Minus (a1:List TRun) (b2:List TRun):M (List TRun):=
 M.bind (M.det (r06_set a1 b2 2)) fun v3=>
 M.pure v3

def r09_set_l0 (v4:List TDot) (a1:List TPart) (b2:List TPart) (how3:Int):Int × List TPart → M (M.Step (Int × List TPart) (List TPart)):=fun ⟨i57,out58⟩=>
 cond ((decide (i57 < (List.length v4:Int))))
  (M.bind (M.bind (M.idx v4 i57) fun x61=>
  M.bind (M.det (r09_Runs a1 x61.dev)) fun v63=>
  M.bind (M.idx v4 i57) fun x65=>
  M.bind (M.det (r09_Runs b2 x65.dev)) fun v67=>
  M.bind (M.det (r06_Join v63 v67)) fun v69=>
  M.bind (cond (decide (how3 = 1))
   (M.bind (M.det (r06_Meet v63 v67)) fun v73=>
   M.pure v73)
   (M.pure v69)) (fun z71=>
  M.bind (cond (decide (how3 = 2))
   (M.bind (M.det (r06_Minus v63 v67)) fun v77=>
   M.pure v77)
   (M.pure z71)) (fun z75=>
  cond ((decide (0 < (List.length z75:Int))))
   (M.bind (M.idx v4 i57) fun x80=>
   M.need ((List.length out58 + List.length ([(⟨x80.dev,z75⟩:TPart)])) * 32 ≤ 140737488355328) <|
   M.pure (out58 ++ [(⟨x80.dev,z75⟩:TPart)]))
   (M.pure out58)))) (fun out60=>
  M.pure (.next (((IntKind.i64.wrap (i57 + 1)),out60)))))
  (M.pure (.done out58))
def r09_set (a1:List TPart) (b2:List TPart) (how3:Int):M (List TPart):=
 M.bind (M.det (r09_devs a1 b2)) fun v4=>
 M.bind (M.loop (r09_set_l0 v4 a1 b2 how3) (0,([]:List TPart))) (fun out6=>
 M.pure out6)

def r09_Join (a1:List TPart) (b2:List TPart):M (List TPart):=
 M.bind (M.det (r09_set a1 b2 0)) fun v3=>
 M.pure v3

def r09_Of_l0 (l1:List TDot):List TPart × Int → M (M.Step (List TPart × Int) (List TPart)):=fun ⟨out35,i36⟩=>
 cond ((decide (i36 < (List.length l1:Int))))
  (M.bind (M.bind (M.idx l1 i36) fun x39=>
  M.bind (M.det (r07_Good x39)) fun v41=>
  cond v41
   (M.bind (M.idx l1 i36) fun x44=>
   M.bind (M.idx l1 i36) fun x46=>
   M.bind (M.idx l1 i36) fun x48=>
   M.bind (M.det (r09_Join out35 ([(⟨x44.dev,[(⟨x46.n,x48.n⟩:TRun)]⟩:TPart)]))) fun v50=>
   M.pure v50)
   (M.pure out35)) (fun out38=>
  M.pure (.next ((out38,(IntKind.i64.wrap (i36 + 1)))))))
  (M.pure (.done out35))
def r09_Of (l1:List TDot):M (List TPart):=
 M.bind (M.loop (r09_Of_l0 l1) (([]:List TPart),0)) (fun out2=>
 M.pure out2)

def ack_New_o :M (Bool × (List ((Int × Int) × List TRun))):=
 M.pure ((true,([]:List ((Int × Int) × List TRun))))

def ack_Matrix_is_o (who1:Int) (nl2:Bool) (m3:List ((Int × Int) × List TRun)):M Bool:=
 M.pure (AL.has m3 (who1,0))

def ack_Matrix_put_o (who1:Int) (dev2:Int) (l3:List TRun) (nl4:Bool) (m5:List ((Int × Int) × List TRun)):M (Bool × (List ((Int × Int) × List TRun))):=
 M.bind (cond nl4
  (M.pure (([]:List ((Int × Int) × List TRun))))
  (M.pure m5)) (fun v6=>
 M.pure ((false,(AL.set v6 (who1,dev2) l3))))

def ack_Matrix_Join_o (who1:Int) (nl2:Bool) (m3:List ((Int × Int) × List TRun)):M (Bool × Bool × (List ((Int × Int) × List TRun))):=
 M.bind (cond (decide (who1 = 0))
  (M.pure true)
  (M.bind (M.det (ack_Matrix_is_o who1 nl2 m3)) fun y6=>
  M.pure y6)) (fun v4=>
 cond v4
  (M.pure (false,nl2,m3))
  (M.bind (M.det (ack_Matrix_put_o who1 0 ([]:List TRun) nl2 m3)) fun y9=>
  M.pure (true,y9.1,y9.2)))

def ack_Matrix_Row_o_l0 (m3:List ((Int × Int) × List TRun)) (who1:Int):List Nat × List TPart → M (M.Step (List Nat × List TPart) (List TPart)):=fun ⟨seen30,c31⟩=>
 M.need (∀ i ∈ seen30,i < List.length m3)<|M.bind (M.nxt (List.length m3) seen30) fun o=>match o with
 | none=>
  M.pure (.done c31)
 | some j32=>
  M.bind (M.idx m3 (Int.ofNat j32)) fun kv36=>
  cond (decide (kv36.1.1 = who1))
   (M.need ((List.length c31 + List.length ([(⟨kv36.1.2,kv36.2⟩:TPart)])) * 32 ≤ 140737488355328) <|
   M.pure (.next (((seen30 ++ [j32]),(c31 ++ [(⟨kv36.1.2,kv36.2⟩:TPart)])))))
   (M.pure (.next ((seen30 ++ [j32]),c31)))
def ack_Matrix_Row_o (who1:Int) (nl2:Bool) (m3:List ((Int × Int) × List TRun)):M (List TPart):=
 M.bind (M.loop (ack_Matrix_Row_o_l0 m3 who1) ([],([]:List TPart))) (fun c5=>
 M.bind (M.det (ctx_Norm c5)) fun v43=>
 M.pure v43)

def ack_Matrix_Hear_o_l0 (v10:List TPart) (who1:Int):Int × Bool × (List ((Int × Int) × List TRun)) → M (M.Step (Int × Bool × (List ((Int × Int) × List TRun))) (Bool × (List ((Int × Int) × List TRun)))):=fun ⟨v27,nl28,v29⟩=>
 cond ((decide (v27 < ((List.length v10):Int))))
  (M.bind (M.idx v10 v27) fun x31=>
  M.bind (M.det (ack_Matrix_put_o who1 x31.dev x31.runs nl28 v29)) fun y33=>
  M.pure (.next (((IntKind.i64.wrap (v27 + 1)),y33.1,y33.2))))
  (M.pure (.done (nl28,v29)))
def ack_Matrix_Hear_o (who1:Int) (c2:List TPart) (nl3:Bool) (m4:List ((Int × Int) × List TRun)):M (Int × Bool × (List ((Int × Int) × List TRun))):=
 M.bind (M.det (ack_Matrix_is_o who1 nl3 m4)) fun y5=>
 cond (!y5)
  (M.pure (6,nl3,m4))
  (M.bind (M.det (ack_Matrix_Row_o who1 nl3 m4)) fun y8=>
  M.bind (M.det (ctx_Join y8 c2)) fun v10=>
  M.bind (M.loop (ack_Matrix_Hear_o_l0 v10 who1) (0,nl3,m4)) (fun ⟨nl12,v13⟩=>
  M.pure (0,nl12,v13)))

def slices_insertionSortOrdered_uint16_o_l0 (a1:Int):Int × List Int → M (M.Step (Int × List Int) (List Int)):=fun ⟨j160,v161⟩=>
 M.bind (cond (decide (a1 < j160))
  (M.bind (M.idx v161 j160) fun x164=>
  M.bind (M.idx v161 (IntKind.i64.wrap (j160 - 1))) fun x166=>
  M.bind (M.det (cmp_Less_uint16 x164 x166)) fun v168=>
  M.pure v168)
  (M.pure false)) (fun v162=>
 cond v162
  (M.bind (M.idx v161 (IntKind.i64.wrap (j160 - 1))) fun x171=>
  M.bind (M.idx v161 j160) fun x173=>
  M.bind (M.idx v161 j160) fun x175=>
  M.bind (M.idx (List.set v161 (Int.toNat j160) x171) (IntKind.i64.wrap (j160 - 1))) fun x177=>
  M.pure (.next (((IntKind.i64.wrap (j160 - 1)),(List.set (List.set v161 (Int.toNat j160) x171) ((Int.toNat (IntKind.i64.wrap (j160 - 1)))) x173)))))
  (M.pure (.done v161)))
def slices_insertionSortOrdered_uint16_o_l1 (b2:Int) (a1:Int):Int × List Int → M (M.Step (Int × List Int) (List Int)):=fun ⟨i120,v121⟩=>
 cond (decide (i120 < b2))
  (M.bind (M.loop (slices_insertionSortOrdered_uint16_o_l0 a1) (i120,v121)) (fun v123=>
  M.pure (.next (((IntKind.i64.wrap (i120 + 1)),v123)))))
  (M.pure (.done v121))
def slices_insertionSortOrdered_uint16_o (a1:Int) (b2:Int) (row3:List Int):M (List Int):=
 M.loop (slices_insertionSortOrdered_uint16_o_l1 b2 a1) (((IntKind.i64.wrap (a1 + 1)),row3))

def slices_siftDownOrdered_uint16_o_l0 (hi2:Int) (first3:Int):Int × List Int → M (M.Step (Int × List Int) (List Int)):=fun ⟨root59,v60⟩=>
 cond ((decide (hi2 ≤ ((IntKind.i64.wrap ((IntKind.i64.wrap (2 * root59)) + 1))))))
  (M.pure (.done v60))
  (M.bind (cond ((decide (((IntKind.i64.wrap (((IntKind.i64.wrap ((IntKind.i64.wrap (2 * root59)) + 1))) + 1))) < hi2)))
   (M.bind (M.idx v60 ((IntKind.i64.wrap (first3 + ((IntKind.i64.wrap ((IntKind.i64.wrap (2 * root59)) + 1))))))) fun x64=>
   M.bind (M.idx v60 ((IntKind.i64.wrap (((IntKind.i64.wrap (first3 + ((IntKind.i64.wrap ((IntKind.i64.wrap (2 * root59)) + 1)))))) + 1)))) fun x66=>
   M.bind (M.det (cmp_Less_uint16 x64 x66)) fun v68=>
   M.pure v68)
   (M.pure false)) (fun v62=>
  M.bind (cond v62
   (M.pure ((IntKind.i64.wrap (((IntKind.i64.wrap ((IntKind.i64.wrap (2 * root59)) + 1))) + 1))))
   (M.pure ((IntKind.i64.wrap ((IntKind.i64.wrap (2 * root59)) + 1))))) (fun child70=>
  M.bind (M.idx v60 (IntKind.i64.wrap (first3 + root59))) fun x72=>
  M.bind (M.idx v60 (IntKind.i64.wrap (first3 + child70))) fun x74=>
  M.bind (M.det (cmp_Less_uint16 x72 x74)) fun v76=>
  cond (!v76)
   (M.pure (.done v60))
   (M.bind (M.idx v60 (IntKind.i64.wrap (first3 + child70))) fun x79=>
   M.bind (M.idx v60 (IntKind.i64.wrap (first3 + root59))) fun x81=>
   M.bind (M.idx v60 (IntKind.i64.wrap (first3 + root59))) fun x83=>
   M.bind (M.idx ((List.set v60 ((Int.toNat (IntKind.i64.wrap (first3 + root59)))) x79)) (IntKind.i64.wrap (first3 + child70))) fun x85=>
   M.pure (.next ((child70,(List.set ((List.set v60 ((Int.toNat (IntKind.i64.wrap (first3 + root59)))) x79)) ((Int.toNat (IntKind.i64.wrap (first3 + child70)))) x81))))))))
def slices_siftDownOrdered_uint16_o (lo1:Int) (hi2:Int) (first3:Int) (row4:List Int):M (List Int):=
 M.loop (slices_siftDownOrdered_uint16_o_l0 hi2 first3) (lo1,row4)

def slices_heapSortOrdered_uint16_o_l0 (b2:Int) (a1:Int):Int × List Int → M (M.Step (Int × List Int) (List Int)):=fun ⟨i15,v16⟩=>
 cond (decide (0 ≤ i15))
  (M.bind (M.det (slices_siftDownOrdered_uint16_o i15 (IntKind.i64.wrap (b2 - a1)) a1 v16)) fun y18=>
  M.need (List.length y18 = (List.length v16)) <|
  M.pure (.next (((IntKind.i64.wrap (i15 - 1)),y18))))
  (M.pure (.done v16))
def slices_heapSortOrdered_uint16_o_l1 (a1:Int):Int × List Int → M (M.Step (Int × List Int) (List Int)):=fun ⟨i47,v48⟩=>
 cond (decide (0 ≤ i47))
  (M.bind (M.idx v48 (IntKind.i64.wrap (a1 + i47))) fun x50=>
  M.bind (M.idx v48 a1) fun x52=>
  M.bind (M.idx v48 a1) fun x54=>
  M.bind (M.idx (List.set v48 (Int.toNat a1) x50) (IntKind.i64.wrap (a1 + i47))) fun x56=>
  M.bind (M.det (slices_siftDownOrdered_uint16_o 0 i47 a1 ((List.set (List.set v48 (Int.toNat a1) x50) ((Int.toNat (IntKind.i64.wrap (a1 + i47)))) x52)))) fun y58=>
  M.need (List.length y58 = (List.length v48)) <|
  M.pure (.next (((IntKind.i64.wrap (i47 - 1)),y58))))
  (M.pure (.done v48))
def slices_heapSortOrdered_uint16_o (a1:Int) (b2:Int) (row3:List Int):M (List Int):=
 M.bind (M.loop (slices_heapSortOrdered_uint16_o_l0 b2 a1) (((IntKind.i64.wrap (Int.tdiv ((IntKind.i64.wrap ((IntKind.i64.wrap (b2 - a1)) - 1))) 2)),row3))) (fun v4=>
 M.loop (slices_heapSortOrdered_uint16_o_l1 a1) (((IntKind.i64.wrap ((IntKind.i64.wrap (b2 - a1)) - 1)),v4)))

def slices_order2Ordered_uint16_o1 (a1:Int) (b2:Int) (row3:List Int) (x_4:Int):M (Int × Int × Int):=
 M.bind (M.idx row3 b2) fun x5=>
 M.bind (M.idx row3 a1) fun x7=>
 M.bind (M.det (cmp_Less_uint16 x5 x7)) fun v9=>
 cond v9
  (M.pure ((b2,a1,(IntKind.i64.wrap (x_4 + 1)))))
  (M.pure (a1,b2,x_4))

def slices_medianOrdered_uint16_o1 (a1:Int) (b2:Int) (c3:Int) (row4:List Int) (x_5:Int):M (Int × Int):=
 M.bind (M.det (slices_order2Ordered_uint16_o1 a1 b2 row4 x_5)) fun y6=>
 M.bind (M.det (slices_order2Ordered_uint16_o1 y6.2.1 c3 row4 y6.2.2)) fun y8=>
 M.bind (M.det (slices_order2Ordered_uint16_o1 y6.1 y8.1 row4 y8.2.2)) fun y10=>
 M.pure (y10.2.1,y10.2.2)

def slices_medianAdjacentOrdered_uint16_o1 (a1:Int) (row2:List Int) (x_3:Int):M (Int × Int):=
 M.bind (M.det (slices_medianOrdered_uint16_o1 (IntKind.i64.wrap (a1 - 1)) a1 (IntKind.i64.wrap (a1 + 1)) row2 x_3)) fun y4=>
 M.pure (y4.1,y4.2)

def slices_choosePivotOrdered_uint16_o (a1:Int) (b2:Int) (row3:List Int):M (Int × Int):=
 M.bind (cond ((decide (8 ≤ (IntKind.i64.wrap (b2 - a1)))))
  (M.bind (cond ((decide (50 ≤ (IntKind.i64.wrap (b2 - a1)))))
   (M.bind (M.det (slices_medianAdjacentOrdered_uint16_o1 ((IntKind.i64.wrap (a1 + ((IntKind.i64.wrap (((IntKind.i64.wrap (Int.tdiv (IntKind.i64.wrap (b2 - a1)) 4))) * 1)))))) row3 0)) fun y12=>
   M.bind (M.det (slices_medianAdjacentOrdered_uint16_o1 ((IntKind.i64.wrap (a1 + ((IntKind.i64.wrap (((IntKind.i64.wrap (Int.tdiv (IntKind.i64.wrap (b2 - a1)) 4))) * 2)))))) row3 y12.2)) fun y14=>
   M.bind (M.det (slices_medianAdjacentOrdered_uint16_o1 ((IntKind.i64.wrap (a1 + ((IntKind.i64.wrap (((IntKind.i64.wrap (Int.tdiv (IntKind.i64.wrap (b2 - a1)) 4))) * 3)))))) row3 y14.2)) fun y16=>
   M.pure (y12.1,y14.1,y16.1,y16.2))
   (M.pure (((IntKind.i64.wrap (a1 + ((IntKind.i64.wrap (((IntKind.i64.wrap (Int.tdiv (IntKind.i64.wrap (b2 - a1)) 4))) * 1))))),(IntKind.i64.wrap (a1 + ((IntKind.i64.wrap (((IntKind.i64.wrap (Int.tdiv (IntKind.i64.wrap (b2 - a1)) 4))) * 2))))),(IntKind.i64.wrap (a1 + ((IntKind.i64.wrap (((IntKind.i64.wrap (Int.tdiv (IntKind.i64.wrap (b2 - a1)) 4))) * 3))))),0)))) (fun ⟨i7,j8,k9,swaps10⟩=>
  M.bind (M.det (slices_medianOrdered_uint16_o1 i7 j8 k9 row3 swaps10)) fun y18=>
  M.pure (y18.1,y18.2)))
  (M.pure (((IntKind.i64.wrap (a1 + ((IntKind.i64.wrap (((IntKind.i64.wrap (Int.tdiv (IntKind.i64.wrap (b2 - a1)) 4))) * 2))))),0)))) (fun ⟨j4,swaps5⟩=>
 cond (decide (swaps5 = 0))
  (M.pure (j4,1))
  (cond (decide (swaps5 = 12))
   (M.pure (j4,2))
   (M.pure (j4,0))))

def slices_reverseRangeOrdered_uint16_o_l0 :Int × Int × List Int → M (M.Step (Int × Int × List Int) (List Int)):=fun ⟨i25,j26,v27⟩=>
 cond (decide (i25 < j26))
  (M.bind (M.idx v27 j26) fun x29=>
  M.bind (M.idx v27 i25) fun x31=>
  M.bind (M.idx v27 i25) fun x33=>
  M.bind (M.idx (List.set v27 (Int.toNat i25) x29) j26) fun x35=>
  M.pure (.next (((IntKind.i64.wrap (i25 + 1)),(IntKind.i64.wrap (j26 - 1)),(List.set (List.set v27 (Int.toNat i25) x29) (Int.toNat j26) x31)))))
  (M.pure (.done v27))
def slices_reverseRangeOrdered_uint16_o (a1:Int) (b2:Int) (row3:List Int):M (List Int):=
 M.loop slices_reverseRangeOrdered_uint16_o_l0 ((a1,(IntKind.i64.wrap (b2 - 1)),row3))

def slices_partialInsertionSortOrdered_uint16_o_l0 (b2:Int) (v310:List Int):Int → M (M.Step Int Int):=fun i334=>
 M.bind (cond (decide (i334 < b2))
  (M.bind (M.idx v310 i334) fun x337=>
  M.bind (M.idx v310 (IntKind.i64.wrap (i334 - 1))) fun x339=>
  M.bind (M.det (cmp_Less_uint16 x337 x339)) fun v341=>
  M.pure (!v341))
  (M.pure false)) (fun v335=>
 cond v335
  (M.pure (.next (IntKind.i64.wrap (i334 + 1))))
  (M.pure (.done i334)))
def slices_partialInsertionSortOrdered_uint16_o_l1 :Int × List Int → M (M.Step (Int × List Int) (List Int)):=fun ⟨j390,v391⟩=>
 cond (decide (1 ≤ j390))
  (M.bind (M.idx v391 j390) fun x393=>
  M.bind (M.idx v391 (IntKind.i64.wrap (j390 - 1))) fun x395=>
  M.bind (M.det (cmp_Less_uint16 x393 x395)) fun v397=>
  cond (!v397)
   (M.pure (.done v391))
   (M.bind (M.idx v391 (IntKind.i64.wrap (j390 - 1))) fun x400=>
   M.bind (M.idx v391 j390) fun x402=>
   M.bind (M.idx v391 j390) fun x404=>
   M.bind (M.idx (List.set v391 (Int.toNat j390) x400) (IntKind.i64.wrap (j390 - 1))) fun x406=>
   M.pure (.next (((IntKind.i64.wrap (j390 - 1)),(List.set (List.set v391 (Int.toNat j390) x400) ((Int.toNat (IntKind.i64.wrap (j390 - 1)))) x402))))))
  (M.pure (.done v391))
def slices_partialInsertionSortOrdered_uint16_o_l2 (b2:Int) (i314:Int):Int × List Int → M (M.Step (Int × List Int) (M.Ex (Int × List Int) (M.Step (Int × Int × List Int) (M.Ex (List Int) (Bool × List Int))))):=fun ⟨j443,v444⟩=>
 cond (decide (j443 < b2))
  (M.bind (M.idx v444 j443) fun x446=>
  M.bind (M.idx v444 (IntKind.i64.wrap (j443 - 1))) fun x448=>
  M.bind (M.det (cmp_Less_uint16 x446 x448)) fun v450=>
  cond (!v450)
   (M.pure (.done (.brk (i314,v444))))
   (M.bind (M.idx v444 (IntKind.i64.wrap (j443 - 1))) fun x453=>
   M.bind (M.idx v444 j443) fun x455=>
   M.bind (M.idx v444 j443) fun x457=>
   M.bind (M.idx (List.set v444 (Int.toNat j443) x453) (IntKind.i64.wrap (j443 - 1))) fun x459=>
   M.pure (.next (((IntKind.i64.wrap (j443 + 1)),(List.set (List.set v444 (Int.toNat j443) x453) ((Int.toNat (IntKind.i64.wrap (j443 - 1)))) x455))))))
  (M.pure (.done (.brk (i314,v444))))
def slices_partialInsertionSortOrdered_uint16_o_l3 (b2:Int) (a1:Int):Int × Int × List Int → M (M.Step (Int × Int × List Int) (M.Ex (List Int) (Bool × List Int))):=fun ⟨i308,j309,v310⟩=>
 cond (decide (j309 < 5))
  (M.bind (M.bind (M.loop (slices_partialInsertionSortOrdered_uint16_o_l0 b2 v310) i308) (fun i314=>
  cond (decide (i314 = b2))
   (M.pure (.ret ((.done (.ret (true,v310))))))
   (cond ((decide ((IntKind.i64.wrap (b2 - a1)) < 50)))
    (M.pure (.ret ((.done (.ret (false,v310))))))
    (M.bind (M.idx v310 (IntKind.i64.wrap (i314 - 1))) fun x346=>
    M.bind (M.idx v310 i314) fun x348=>
    M.bind (M.idx v310 i314) fun x350=>
    M.bind (M.idx (List.set v310 (Int.toNat i314) x346) (IntKind.i64.wrap (i314 - 1))) fun x352=>
    M.bind (cond ((decide (2 ≤ (IntKind.i64.wrap (i314 - a1)))))
     (M.loop slices_partialInsertionSortOrdered_uint16_o_l1 (((IntKind.i64.wrap (i314 - 1)),(List.set (List.set v310 (Int.toNat i314) x346) ((Int.toNat (IntKind.i64.wrap (i314 - 1)))) x348))))
     (M.pure ((List.set (List.set v310 (Int.toNat i314) x346) ((Int.toNat (IntKind.i64.wrap (i314 - 1)))) x348)))) (fun v354=>
    cond ((decide (2 ≤ (IntKind.i64.wrap (b2 - i314)))))
     (M.loop (slices_partialInsertionSortOrdered_uint16_o_l2 b2 i314) (((IntKind.i64.wrap (i314 + 1)),v354)))
     (M.pure (.brk (i314,v354)))))))) (M.exk (fun ⟨i312,v313⟩=>
  M.pure (.next ((i312,(IntKind.i64.wrap (j309 + 1)),v313))))))
  (M.pure (.done (.brk v310)))
def slices_partialInsertionSortOrdered_uint16_o (a1:Int) (b2:Int) (row3:List Int):M (Bool × List Int):=
 M.bind (M.loop (slices_partialInsertionSortOrdered_uint16_o_l3 b2 a1) (((IntKind.i64.wrap (a1 + 1)),0,row3))) (M.exk (fun v4=>
 M.pure (false,v4)))

def slices_partitionEqualOrdered_uint16_o_l0 (j157:Int) (v158:List Int) (a1:Int):Int → M (M.Step Int Int):=fun i179=>
 M.bind (cond (decide (i179 ≤ j157))
  (M.bind (M.idx v158 a1) fun x182=>
  M.bind (M.idx v158 i179) fun x184=>
  M.bind (M.det (cmp_Less_uint16 x182 x184)) fun v186=>
  M.pure (!v186))
  (M.pure false)) (fun v180=>
 cond v180
  (M.pure (.next (IntKind.i64.wrap (i179 + 1))))
  (M.pure (.done i179)))
def slices_partitionEqualOrdered_uint16_o_l1 (i159:Int) (v158:List Int) (a1:Int):Int → M (M.Step Int Int):=fun j209=>
 M.bind (cond (decide (i159 ≤ j209))
  (M.bind (M.idx v158 a1) fun x212=>
  M.bind (M.idx v158 j209) fun x214=>
  M.bind (M.det (cmp_Less_uint16 x212 x214)) fun v216=>
  M.pure v216)
  (M.pure false)) (fun v210=>
 cond v210
  (M.pure (.next (IntKind.i64.wrap (j209 - 1))))
  (M.pure (.done j209)))
def slices_partitionEqualOrdered_uint16_o_l2 (a1:Int):Int × Int × List Int → M (M.Step (Int × Int × List Int) (Int × List Int)):=fun ⟨i156,j157,v158⟩=>
 M.bind (M.loop (slices_partitionEqualOrdered_uint16_o_l0 j157 v158 a1) i156) (fun i159=>
 M.bind (M.loop (slices_partitionEqualOrdered_uint16_o_l1 i159 v158 a1) j157) (fun j189=>
 cond (decide (j189 < i159))
  (M.pure (.done (i159,v158)))
  (M.bind (M.idx v158 j189) fun x220=>
  M.bind (M.idx v158 i159) fun x222=>
  M.bind (M.idx v158 i159) fun x224=>
  M.bind (M.idx (List.set v158 (Int.toNat i159) x220) j189) fun x226=>
  M.pure (.next (((IntKind.i64.wrap (i159 + 1)),(IntKind.i64.wrap (j189 - 1)),(List.set (List.set v158 (Int.toNat i159) x220) (Int.toNat j189) x222)))))))
def slices_partitionEqualOrdered_uint16_o (a1:Int) (b2:Int) (pivot3:Int) (row4:List Int):M (Int × List Int):=
 M.bind (M.idx row4 pivot3) fun x5=>
 M.bind (M.idx row4 a1) fun x7=>
 M.bind (M.idx row4 a1) fun x9=>
 M.bind (M.idx (List.set row4 (Int.toNat a1) x5) pivot3) fun x11=>
 M.bind (M.loop (slices_partitionEqualOrdered_uint16_o_l2 a1) (((IntKind.i64.wrap (a1 + 1)),(IntKind.i64.wrap (b2 - 1)),(List.set (List.set row4 (Int.toNat a1) x5) (Int.toNat pivot3) x7)))) (fun ⟨i13,v14⟩=>
 M.pure (i13,v14))

def slices_partitionOrdered_uint16_o_l0 (b2:Int) (row4:List Int) (a1:Int) (x5:Int) (pivot3:Int) (x7:Int):Int → M (M.Step Int Int):=fun i33=>
 M.bind (cond ((decide (i33 ≤ (IntKind.i64.wrap (b2 - 1)))))
  (M.bind (M.idx ((List.set (List.set row4 (Int.toNat a1) x5) (Int.toNat pivot3) x7)) i33) fun x36=>
  M.bind (M.idx ((List.set (List.set row4 (Int.toNat a1) x5) (Int.toNat pivot3) x7)) a1) fun x38=>
  M.bind (M.det (cmp_Less_uint16 x36 x38)) fun v40=>
  M.pure v40)
  (M.pure false)) (fun v34=>
 cond v34
  (M.pure (.next (IntKind.i64.wrap (i33 + 1))))
  (M.pure (.done i33)))
def slices_partitionOrdered_uint16_o_l1 (i13:Int) (row4:List Int) (a1:Int) (x5:Int) (pivot3:Int) (x7:Int):Int → M (M.Step Int Int):=fun j63=>
 M.bind (cond (decide (i13 ≤ j63))
  (M.bind (M.idx ((List.set (List.set row4 (Int.toNat a1) x5) (Int.toNat pivot3) x7)) j63) fun x66=>
  M.bind (M.idx ((List.set (List.set row4 (Int.toNat a1) x5) (Int.toNat pivot3) x7)) a1) fun x68=>
  M.bind (M.det (cmp_Less_uint16 x66 x68)) fun v70=>
  M.pure (!v70))
  (M.pure false)) (fun v64=>
 cond v64
  (M.pure (.next (IntKind.i64.wrap (j63 - 1))))
  (M.pure (.done j63)))
def slices_partitionOrdered_uint16_o_l2 (j234:Int) (v235:List Int) (a1:Int):Int → M (M.Step Int Int):=fun i256=>
 M.bind (cond (decide (i256 ≤ j234))
  (M.bind (M.idx v235 i256) fun x259=>
  M.bind (M.idx v235 a1) fun x261=>
  M.bind (M.det (cmp_Less_uint16 x259 x261)) fun v263=>
  M.pure v263)
  (M.pure false)) (fun v257=>
 cond v257
  (M.pure (.next (IntKind.i64.wrap (i256 + 1))))
  (M.pure (.done i256)))
def slices_partitionOrdered_uint16_o_l3 (i236:Int) (v235:List Int) (a1:Int):Int → M (M.Step Int Int):=fun j286=>
 M.bind (cond (decide (i236 ≤ j286))
  (M.bind (M.idx v235 j286) fun x289=>
  M.bind (M.idx v235 a1) fun x291=>
  M.bind (M.det (cmp_Less_uint16 x289 x291)) fun v293=>
  M.pure (!v293))
  (M.pure false)) (fun v287=>
 cond v287
  (M.pure (.next (IntKind.i64.wrap (j286 - 1))))
  (M.pure (.done j286)))
def slices_partitionOrdered_uint16_o_l4 (a1:Int):Int × Int × List Int → M (M.Step (Int × Int × List Int) (Int × List Int)):=fun ⟨i233,j234,v235⟩=>
 M.bind (M.loop (slices_partitionOrdered_uint16_o_l2 j234 v235 a1) i233) (fun i236=>
 M.bind (M.loop (slices_partitionOrdered_uint16_o_l3 i236 v235 a1) j234) (fun j266=>
 cond (decide (j266 < i236))
  (M.pure (.done (j266,v235)))
  (M.bind (M.idx v235 j266) fun x297=>
  M.bind (M.idx v235 i236) fun x299=>
  M.bind (M.idx v235 i236) fun x301=>
  M.bind (M.idx (List.set v235 (Int.toNat i236) x297) j266) fun x303=>
  M.pure (.next (((IntKind.i64.wrap (i236 + 1)),(IntKind.i64.wrap (j266 - 1)),(List.set (List.set v235 (Int.toNat i236) x297) (Int.toNat j266) x299)))))))
def slices_partitionOrdered_uint16_o (a1:Int) (b2:Int) (pivot3:Int) (row4:List Int):M (Int × Bool × List Int):=
 M.bind (M.idx row4 pivot3) fun x5=>
 M.bind (M.idx row4 a1) fun x7=>
 M.bind (M.idx row4 a1) fun x9=>
 M.bind (M.idx (List.set row4 (Int.toNat a1) x5) pivot3) fun x11=>
 M.bind (M.loop (slices_partitionOrdered_uint16_o_l0 b2 row4 a1 x5 pivot3 x7) (IntKind.i64.wrap (a1 + 1))) (fun i13=>
 M.bind (M.loop (slices_partitionOrdered_uint16_o_l1 i13 row4 a1 x5 pivot3 x7) (IntKind.i64.wrap (b2 - 1))) (fun j43=>
 cond (decide (j43 < i13))
  (M.bind (M.idx ((List.set (List.set row4 (Int.toNat a1) x5) (Int.toNat pivot3) x7)) a1) fun x74=>
  M.bind (M.idx ((List.set (List.set row4 (Int.toNat a1) x5) (Int.toNat pivot3) x7)) j43) fun x76=>
  M.bind (M.idx ((List.set (List.set row4 (Int.toNat a1) x5) (Int.toNat pivot3) x7)) j43) fun x78=>
  M.bind (M.idx ((List.set ((List.set (List.set row4 (Int.toNat a1) x5) (Int.toNat pivot3) x7)) (Int.toNat j43) x74)) a1) fun x80=>
  M.pure ((j43,true,(List.set ((List.set ((List.set (List.set row4 (Int.toNat a1) x5) (Int.toNat pivot3) x7)) (Int.toNat j43) x74)) (Int.toNat a1) x76))))
  (M.bind (M.idx ((List.set (List.set row4 (Int.toNat a1) x5) (Int.toNat pivot3) x7)) j43) fun x82=>
  M.bind (M.idx ((List.set (List.set row4 (Int.toNat a1) x5) (Int.toNat pivot3) x7)) i13) fun x84=>
  M.bind (M.idx ((List.set (List.set row4 (Int.toNat a1) x5) (Int.toNat pivot3) x7)) i13) fun x86=>
  M.bind (M.idx ((List.set ((List.set (List.set row4 (Int.toNat a1) x5) (Int.toNat pivot3) x7)) (Int.toNat i13) x82)) j43) fun x88=>
  M.bind (M.loop (slices_partitionOrdered_uint16_o_l4 a1) (((IntKind.i64.wrap (i13 + 1)),(IntKind.i64.wrap (j43 - 1)),(List.set ((List.set ((List.set (List.set row4 (Int.toNat a1) x5) (Int.toNat pivot3) x7)) (Int.toNat i13) x82)) (Int.toNat j43) x84)))) (fun ⟨j90,v91⟩=>
  M.bind (M.idx v91 a1) fun x305=>
  M.bind (M.idx v91 j90) fun x307=>
  M.bind (M.idx v91 j90) fun x309=>
  M.bind (M.idx (List.set v91 (Int.toNat j90) x305) a1) fun x311=>
  M.pure ((j90,false,(List.set (List.set v91 (Int.toNat j90) x305) (Int.toNat a1) x307)))))))

def slices_breakPatternsOrdered_uint16_o_l0 (a1:Int) (b2:Int) (v5:Int):Int × Int × List Int → M (M.Step (Int × Int × List Int) (List Int)):=fun ⟨idx36,random37,v38⟩=>
 cond ((decide (idx36 ≤ ((IntKind.i64.wrap (((IntKind.i64.wrap (a1 + ((IntKind.i64.wrap (((IntKind.i64.wrap (Int.tdiv (IntKind.i64.wrap (b2 - a1)) 4))) * 2)))))) + 1))))))
  (M.bind (M.det (slices_xorshift_Next_o random37)) fun y40=>
  M.bind (cond ((decide ((IntKind.i64.wrap (b2 - a1)) ≤ ((IntKind.i64.wrap ((bAnd .u64 y40.1 (IntKind.u64.wrap (v5 - 1)))))))))
   (M.pure ((IntKind.i64.wrap (((IntKind.i64.wrap ((bAnd .u64 y40.1 (IntKind.u64.wrap (v5 - 1)))))) - (IntKind.i64.wrap (b2 - a1))))))
   (M.pure ((IntKind.i64.wrap ((bAnd .u64 y40.1 (IntKind.u64.wrap (v5 - 1)))))))) (fun other42=>
  M.bind (M.idx v38 (IntKind.i64.wrap (a1 + other42))) fun x44=>
  M.bind (M.idx v38 idx36) fun x46=>
  M.bind (M.idx v38 idx36) fun x48=>
  M.bind (M.idx (List.set v38 (Int.toNat idx36) x44) (IntKind.i64.wrap (a1 + other42))) fun x50=>
  M.pure (.next (((IntKind.i64.wrap (idx36 + 1)),y40.2,(List.set (List.set v38 (Int.toNat idx36) x44) ((Int.toNat (IntKind.i64.wrap (a1 + other42)))) x46))))))
  (M.pure (.done v38))
def slices_breakPatternsOrdered_uint16_o (a1:Int) (b2:Int) (row3:List Int):M (List Int):=
 cond ((decide (8 ≤ (IntKind.i64.wrap (b2 - a1)))))
  (M.bind (M.det (slices_nextPowerOfTwo (IntKind.i64.wrap (b2 - a1)))) fun v5=>
  M.loop (slices_breakPatternsOrdered_uint16_o_l0 a1 b2 v5) (((IntKind.i64.wrap (((IntKind.i64.wrap (a1 + ((IntKind.i64.wrap (((IntKind.i64.wrap (Int.tdiv (IntKind.i64.wrap (b2 - a1)) 4))) * 2)))))) - 1)),(IntKind.u64.wrap (IntKind.i64.wrap (b2 - a1))),row3)))
  (M.pure row3)

def slices_pdqsortOrdered_uint16_o_l0 (self:Int → Int → Int → List Int → M (List Int)):Int × Int × Int × Bool × Bool × List Int → M (M.Step (Int × Int × Int × Bool × Bool × List Int) (List Int)):=fun ⟨a169,b170,limit171,wasBalanced172,wasPartitioned173,v174⟩=>
 cond ((decide ((IntKind.i64.wrap (b170 - a169)) ≤ 12)))
  (M.bind (M.det (slices_insertionSortOrdered_uint16_o a169 b170 v174)) fun y176=>
  M.need (List.length y176 = (List.length v174)) <|
  M.pure (.done y176))
  (cond (decide (limit171 = 0))
   (M.bind (M.det (slices_heapSortOrdered_uint16_o a169 b170 v174)) fun y180=>
   M.need (List.length y180 = (List.length v174)) <|
   M.pure (.done y180))
   (M.bind (cond (!wasBalanced172)
    (M.bind (M.det (slices_breakPatternsOrdered_uint16_o a169 b170 v174)) fun y186=>
    M.need (List.length y186 = (List.length v174)) <|
    M.pure (((IntKind.i64.wrap (limit171 - 1)),y186)))
    (M.pure (limit171,v174))) (fun ⟨limit183,v184⟩=>
   M.bind (M.det (slices_choosePivotOrdered_uint16_o a169 b170 v184)) fun y189=>
   M.bind (cond (decide (y189.2 = 2))
    (M.bind (M.det (slices_reverseRangeOrdered_uint16_o a169 b170 v184)) fun y195=>
    M.need (List.length y195 = (List.length v184)) <|
    M.pure (((IntKind.i64.wrap ((IntKind.i64.wrap (b170 - 1)) - (IntKind.i64.wrap (y189.1 - a169)))),1,y195)))
    (M.pure (y189.1,y189.2,v184))) (fun ⟨pivot191,hint192,v193⟩=>
   M.bind (cond wasBalanced172
    (cond wasPartitioned173
     (M.pure (decide (hint192 = 1)))
     (M.pure false))
    (M.pure false)) (fun v198=>
   M.bind (cond v198
    (M.bind (M.det (slices_partialInsertionSortOrdered_uint16_o a169 b170 v193)) fun y203=>
    M.need (List.length y203.2 = (List.length v193)) <|
    cond y203.1
     (M.pure (.ret (.done y203.2)))
     (M.pure (.brk y203.2)))
    (M.pure (.brk v193))) (M.exk (fun v201=>
   M.bind (cond (decide (0 < a169))
    (M.bind (M.idx v201 (IntKind.i64.wrap (a169 - 1))) fun x209=>
    M.bind (M.idx v201 pivot191) fun x211=>
    M.bind (M.det (cmp_Less_uint16 x209 x211)) fun v213=>
    M.pure (!v213))
    (M.pure false)) (fun v207=>
   cond v207
    (M.bind (M.det (slices_partitionEqualOrdered_uint16_o a169 b170 pivot191 v201)) fun y216=>
    M.need (List.length y216.2 = (List.length v201)) <|
    M.pure (.next (y216.1,b170,limit183,wasBalanced172,wasPartitioned173,y216.2)))
    (M.bind (M.det (slices_partitionOrdered_uint16_o a169 b170 pivot191 v201)) fun y219=>
    M.need (List.length y219.2.2 = (List.length v201)) <|
    cond ((decide ((IntKind.i64.wrap (y219.1 - a169)) < (IntKind.i64.wrap (b170 - y219.1)))))
     (M.bind (M.det (self a169 y219.1 limit183 y219.2.2)) fun y223=>
     M.need (List.length y223 = (List.length v201)) <|
     M.pure (.next (((IntKind.i64.wrap (y219.1 + 1)),b170,limit183,(decide (((IntKind.i64.wrap (Int.tdiv (IntKind.i64.wrap (b170 - a169)) 8))) ≤ (IntKind.i64.wrap (y219.1 - a169)))),y219.2.1,y223))))
     (M.bind (M.det (self (IntKind.i64.wrap (y219.1 + 1)) b170 limit183 y219.2.2)) fun y226=>
     M.need (List.length y226 = (List.length v201)) <|
     M.pure (.next ((a169,y219.1,limit183,(decide (((IntKind.i64.wrap (Int.tdiv (IntKind.i64.wrap (b170 - a169)) 8))) ≤ (IntKind.i64.wrap (b170 - y219.1)))),y219.2.1,y226)))))))))))))
def slices_pdqsortOrdered_uint16_o_b (self:Int → Int → Int → List Int → M (List Int)) (a1:Int) (b2:Int) (limit3:Int) (row4:List Int):M (List Int):=
 M.loop (slices_pdqsortOrdered_uint16_o_l0 self) (a1,b2,limit3,true,true,row4)
def slices_pdqsortOrdered_uint16_o_F : Nat → Int → Int → Int → List Int → M (List Int)
 | 0,_,_,_,_=>M.fail
 | n + 1,a1,b2,limit3,row4=>slices_pdqsortOrdered_uint16_o_b (slices_pdqsortOrdered_uint16_o_F n) a1 b2 limit3 row4
def slices_pdqsortOrdered_uint16_o (a1:Int) (b2:Int) (limit3:Int) (row4:List Int):M (List Int):=slices_pdqsortOrdered_uint16_o_F (Int.toNat (b2 - a1) + 1) a1 b2 limit3 row4

def slices_Sort_sl_uint16_uint16_o (row1:List Int):M (List Int):=
 M.bind (M.det (math_bits_Len ((IntKind.u64.wrap ((List.length row1):Int))))) fun v2=>
 M.bind (M.det (slices_pdqsortOrdered_uint16_o 0 ((List.length row1):Int) v2 row1)) fun y4=>
 M.need (List.length y4 = (List.length row1)) <|
 M.pure y4

def ack_Matrix_Members_o_l0 (m2:List ((Int × Int) × List TRun)):List Nat × List Int → M (M.Step (List Nat × List Int) (List Int)):=fun ⟨seen29,out30⟩=>
 M.need (∀ i ∈ seen29,i < List.length m2)<|M.bind (M.nxt (List.length m2) seen29) fun o=>match o with
 | none=>
  M.pure (.done out30)
 | some j31=>
  M.bind (M.idx m2 (Int.ofNat j31)) fun kv35=>
  cond (decide (kv35.1.2 = 0))
   (M.need ((List.length out30 + List.length ([kv35.1.1])) * 2 ≤ 140737488355328) <|
   M.pure (.next ((seen29 ++ [j31]),(out30 ++ [kv35.1.1]))))
   (M.pure (.next ((seen29 ++ [j31]),out30)))
def ack_Matrix_Members_o (nl1:Bool) (m2:List ((Int × Int) × List TRun)):M (List Int):=
 M.bind (M.loop (ack_Matrix_Members_o_l0 m2) ([],([]:List Int))) (fun out4=>
 M.bind (M.det (slices_Sort_sl_uint16_uint16_o out4)) fun y42=>
 M.need (List.length y42 = (List.length out4)) <|
 M.pure y42)

def ack_Matrix_Front_o_l0 (y6:List Int) (nl2:Bool) (m3:List ((Int × Int) × List TRun)):List TPart × Int → M (M.Step (List TPart × Int) (List TPart)):=fun ⟨c25,v26⟩=>
 cond ((decide (v26 < (List.length y6:Int))))
  (M.bind (M.idx y6 v26) fun x28=>
  M.bind (M.det (ack_Matrix_Row_o x28 nl2 m3)) fun y30=>
  M.bind (M.det (ctx_Meet c25 y30)) fun v32=>
  M.pure (.next ((v32,(IntKind.i64.wrap (v26 + 1))))))
  (M.pure (.done c25))
def ack_Matrix_Front_o (c1:List TPart) (nl2:Bool) (m3:List ((Int × Int) × List TRun)):M (List TPart):=
 M.bind (M.det (ctx_Norm c1)) fun v4=>
 M.bind (M.det (ack_Matrix_Members_o nl2 m3)) fun y6=>
 M.bind (M.loop (ack_Matrix_Front_o_l0 y6 nl2 m3) (v4,0)) (fun c8=>
 M.pure c8)

def l25_works :M Bool:=
 M.bind (M.det (ack_New_o)) fun y1=>
 M.bind (M.det (ack_Matrix_Join_o 1 y1.1 y1.2)) fun y3=>
 M.bind (M.det (ack_Matrix_Join_o 2 y3.2.1 y3.2.2)) fun y5=>
 M.bind (M.det (r09_Of ([(⟨5,1⟩:TDot),(⟨5,2⟩:TDot)]))) fun v7=>
 M.bind (M.det (ack_Matrix_Hear_o 1 v7 y5.2.1 y5.2.2)) fun y9=>
 M.bind (M.det (r09_Of ([(⟨5,2⟩:TDot)]))) fun v11=>
 M.bind (M.det (ack_Matrix_Hear_o 2 v11 y9.2.1 y9.2.2)) fun y13=>
 M.bind (cond y3.1
  (cond y5.1
   (cond (decide (y9.1 = 0))
    (cond (decide (y13.1 = 0))
     (M.bind (M.det (r09_Of ([(⟨5,1⟩:TDot),(⟨5,2⟩:TDot)]))) fun v20=>
     M.bind (M.det (ack_Matrix_Front_o v20 y13.2.1 y13.2.2)) fun y22=>
     M.bind (M.det (r09_Of ([(⟨5,2⟩:TDot)]))) fun v24=>
     M.bind (M.det (r09_Eq y22 v24)) fun v26=>
     M.pure v26)
     (M.pure false))
    (M.pure false))
   (M.pure false))
  (M.pure false)) (fun v15=>
 M.pure v15)

def slices_Clone_sl_Run_Run (s1:List TRun):M (List TRun):=
 M.bind (M.isNil s1) fun b2=>
 cond b2
  (M.pure ([]:List TRun))
  (M.need ((List.length ([]:List TRun) + List.length s1) * 16 ≤ 140737488355328) <|
  M.pure (([]:List TRun) ++ s1))

def r09_Minus (a1:List TPart) (b2:List TPart):M (List TPart):=
 M.bind (M.det (r09_set a1 b2 2)) fun v3=>
 M.pure v3

def r09_Within (a1:List TPart) (b2:List TPart):M Bool:=
 M.bind (M.det (r09_Minus a1 b2)) fun v3=>
 M.pure ((decide (((List.length v3):Int) = 0)))

def runs_rest_l0 (v2:List TRun):Int × Int × List TRun → M (M.Step (Int × Int × List TRun) (Int × List TRun)):=fun ⟨at17,v18,out19⟩=>
 cond ((decide (v18 < ((List.length v2):Int))))
  (M.bind (M.idx v2 v18) fun x21=>
  M.need ((List.length out19 + List.length ([(⟨at17,(IntKind.u64.wrap (x21.lo - 1))⟩:TRun)])) * 16 ≤ 140737488355328) <|
  M.pure (.next (((IntKind.u64.wrap (x21.hi + 1)),(IntKind.i64.wrap (v18 + 1)),(out19 ++ [(⟨at17,(IntKind.u64.wrap (x21.lo - 1))⟩:TRun)])))))
  (M.pure (.done (at17,out19)))
def runs_rest (l1:List TRun):M (List TRun):=
 M.bind (M.det (runs_Norm l1)) fun v2=>
 M.bind (M.loop (runs_rest_l0 v2) (1,0,([]:List TRun))) (fun ⟨at4,out5⟩=>
 M.need ((List.length out5 + List.length ([(⟨at4,281474976710655⟩:TRun)])) * 16 ≤ 140737488355328) <|
 M.pure (out5 ++ [(⟨at4,281474976710655⟩:TRun)]))

def runs_Minus (a1:List TRun) (b2:List TRun):M (List TRun):=
 M.bind (M.det (runs_rest b2)) fun v3=>
 M.bind (M.det (runs_Meet a1 v3)) fun v5=>
 M.pure v5

def ctx_each_runs_Minus_l0 (v6:List (Int × List TRun)):List Nat × (List (Int × List TRun)) → M (M.Step (List Nat × (List (Int × List TRun))) (List (Int × List TRun))):=fun ⟨seen32,v33⟩=>
 M.need (∀ i ∈ seen32,i < List.length v33)<|M.bind (M.nxt (List.length v33) seen32) fun o=>match o with
 | none=>
  M.pure (.done v33)
 | some j34=>
  M.bind (M.idx v33 (Int.ofNat j34)) fun kv38=>
  M.bind (M.det (runs_Minus kv38.2 (AL.getZ v6 kv38.1 ([]:List TRun)))) fun v40=>
  M.need (AL.has v33 kv38.1 = true) <|
  M.pure (.next ((seen32 ++ [j34]),(AL.set v33 kv38.1 v40)))
def ctx_each_runs_Minus (a1:List TPart) (b2:List TPart):M (List TPart):=
 M.bind (M.det (ctx_told a1)) fun v3=>
 M.bind (M.det (ctx_told b2)) fun v6=>
 M.bind (M.loop (ctx_each_runs_Minus_l0 v6) ([],v3)) (fun v9=>
 M.bind (M.det (ctx_order v9)) fun v44=>
 M.pure v44)

def ctx_Minus (a1:List TPart) (b2:List TPart):M (List TPart):=
 M.bind (M.det (ctx_each_runs_Minus a1 b2)) fun v3=>
 M.pure v3

def ctx_Within (a1:List TPart) (b2:List TPart):M Bool:=
 M.bind (M.det (ctx_Minus a1 b2)) fun v3=>
 M.pure ((decide (((List.length v3):Int) = 0)))

def ack_Matrix_Copy_o_l0 (m2:List ((Int × Int) × List TRun)):List Nat × Bool × (List ((Int × Int) × List TRun)) → M (M.Step (List Nat × Bool × (List ((Int × Int) × List TRun))) (Bool × (List ((Int × Int) × List TRun)))):=fun ⟨seen37,nl38,v39⟩=>
 M.need (∀ i ∈ seen37,i < List.length m2)<|M.bind (M.nxt (List.length m2) seen37) fun o=>match o with
 | none=>
  M.pure (.done (nl38,v39))
 | some j40=>
  M.bind (M.idx m2 (Int.ofNat j40)) fun kv44=>
  M.bind (M.det (slices_Clone_sl_Run_Run kv44.2)) fun v48=>
  M.bind (M.det (ack_Matrix_put_o kv44.1.1 kv44.1.2 v48 nl38 v39)) fun y50=>
  M.pure (.next ((seen37 ++ [j40]),y50.1,y50.2))
def ack_Matrix_Copy_o (nl1:Bool) (m2:List ((Int × Int) × List TRun)):M (Bool × (List ((Int × Int) × List TRun))):=
 M.bind (M.det (ack_New_o)) fun y3=>
 M.bind (M.loop (ack_Matrix_Copy_o_l0 m2) ([],y3.1,y3.2)) (fun ⟨nl6,v7⟩=>
 M.pure (nl6,v7))

def ack_Matrix_Leave_o_l0 (y7:List TPart) (who1:Int):Int × (List ((Int × Int) × List TRun)) → M (M.Step (Int × (List ((Int × Int) × List TRun))) (List ((Int × Int) × List TRun))):=fun ⟨v18,v19⟩=>
 cond ((decide (v18 < (List.length y7:Int))))
  (M.bind (M.idx y7 v18) fun x21=>
  M.pure (.next (((IntKind.i64.wrap (v18 + 1)),(AL.del v19 (who1,x21.dev))))))
  (M.pure (.done v19))
def ack_Matrix_Leave_o (who1:Int) (nl2:Bool) (m3:List ((Int × Int) × List TRun)):M (Bool × Bool × (List ((Int × Int) × List TRun))):=
 M.bind (M.det (ack_Matrix_is_o who1 nl2 m3)) fun y4=>
 cond (!y4)
  (M.pure (false,nl2,m3))
  (M.bind (M.det (ack_Matrix_Row_o who1 nl2 m3)) fun y7=>
  M.bind (M.loop (ack_Matrix_Leave_o_l0 y7 who1) (0,m3)) (fun v9=>
  M.pure ((true,nl2,(AL.del v9 (who1,0))))))

def ack_Below_o_l0 (y5:List Int) (nl3:Bool) (m4:List ((Int × Int) × List TRun)) (nl1:Bool) (m2:List ((Int × Int) × List TRun)):Int → M (M.Step Int (M.Ex Unit Bool)):=fun v36=>
 cond ((decide (v36 < (List.length y5:Int))))
  (M.bind (M.idx y5 v36) fun x38=>
  M.bind (M.bind (M.det (ack_Matrix_is_o x38 nl3 m4)) fun y41=>
  cond (!y41)
   (M.pure true)
   (M.bind (M.det (ack_Matrix_Row_o x38 nl1 m2)) fun y44=>
   M.bind (M.det (ack_Matrix_Row_o x38 nl3 m4)) fun y46=>
   M.bind (M.det (ctx_Within y44 y46)) fun v48=>
   M.pure (!v48))) (fun v40=>
  cond v40
   (M.pure (.done (.ret false)))
   (M.pure (.next (IntKind.i64.wrap (v36 + 1))))))
  (M.pure (.done (.brk ())))
def ack_Below_o (nl1:Bool) (m2:List ((Int × Int) × List TRun)) (nl3:Bool) (m4:List ((Int × Int) × List TRun)):M Bool:=
 M.bind (M.det (ack_Matrix_Members_o nl1 m2)) fun y5=>
 M.bind (M.loop (ack_Below_o_l0 y5 nl3 m4 nl1 m2) 0) (M.exk (fun _=>
 M.pure true))

def r25_Is_l0 (m1:List R25Row) (who2:Int):Int → M (M.Step Int (M.Ex Unit Bool)):=fun i12=>
 cond ((decide (i12 < (List.length m1:Int))))
  (M.bind (M.idx m1 i12) fun x14=>
  cond (decide (x14.who = who2))
   (M.pure (.done (.ret true)))
   (M.pure (.next (IntKind.i64.wrap (i12 + 1)))))
  (M.pure (.done (.brk ())))
def r25_Is (m1:List R25Row) (who2:Int):M Bool:=
 M.bind (M.loop (r25_Is_l0 m1 who2) 0) (M.exk (fun _=>
 M.pure false))

def r25_Join_l0 (m1:List R25Row) (who2:Int):Int × List R25Row → M (M.Step (Int × List R25Row) (List R25Row)):=fun ⟨i27,out28⟩=>
 cond ((decide (i27 < (List.length m1:Int))))
  (M.bind (M.bind (M.idx m1 i27) fun x31=>
  cond (decide (x31.who < who2))
   (M.bind (M.idx m1 i27) fun x34=>
   M.need ((List.length out28 + List.length ([x34])) * 32 ≤ 140737488355328) <|
   M.pure (out28 ++ [x34]))
   (M.pure out28)) (fun out30=>
  M.pure (.next (((IntKind.i64.wrap (i27 + 1)),out30)))))
  (M.pure (.done out28))
def r25_Join_l1 (m1:List R25Row) (who2:Int):Int × List R25Row → M (M.Step (Int × List R25Row) (List R25Row)):=fun ⟨i57,out58⟩=>
 cond ((decide (i57 < (List.length m1:Int))))
  (M.bind (M.bind (M.idx m1 i57) fun x61=>
  cond (decide (who2 < x61.who))
   (M.bind (M.idx m1 i57) fun x64=>
   M.need ((List.length out58 + List.length ([x64])) * 32 ≤ 140737488355328) <|
   M.pure (out58 ++ [x64]))
   (M.pure out58)) (fun out60=>
  M.pure (.next (((IntKind.i64.wrap (i57 + 1)),out60)))))
  (M.pure (.done out58))
def r25_Join (m1:List R25Row) (who2:Int):M (List R25Row × Bool):=
 M.bind (cond (decide (who2 = 0))
  (M.pure true)
  (M.bind (M.det (r25_Is m1 who2)) fun v5=>
  M.pure v5)) (fun v3=>
 cond v3
  (M.pure (m1,false))
  (M.bind (M.loop (r25_Join_l0 m1 who2) (0,([]:List R25Row))) (fun out8=>
  M.need ((List.length out8 + List.length ([(⟨who2,([]:List TPart)⟩:R25Row)])) * 32 ≤ 140737488355328) <|
  M.bind (M.loop (r25_Join_l1 m1 who2) ((0,(out8 ++ [(⟨who2,([]:List TPart)⟩:R25Row)])))) (fun out38=>
  M.pure (out38,true)))))

def r25_Leave_l0 (m1:List R25Row) (who2:Int):Int × List R25Row → M (M.Step (Int × List R25Row) (List R25Row)):=fun ⟨i22,out23⟩=>
 cond ((decide (i22 < (List.length m1:Int))))
  (M.bind (M.bind (M.idx m1 i22) fun x26=>
  cond (!decide (x26.who = who2))
   (M.bind (M.idx m1 i22) fun x29=>
   M.need ((List.length out23 + List.length ([x29])) * 32 ≤ 140737488355328) <|
   M.pure (out23 ++ [x29]))
   (M.pure out23)) (fun out25=>
  M.pure (.next (((IntKind.i64.wrap (i22 + 1)),out25)))))
  (M.pure (.done out23))
def r25_Leave (m1:List R25Row) (who2:Int):M (List R25Row × Bool):=
 M.bind (M.loop (r25_Leave_l0 m1 who2) (0,([]:List R25Row))) (fun out3=>
 M.pure ((out3,(decide (((List.length out3):Int) < (List.length m1:Int))))))

def r25_Hear_l0 (m1:List R25Row) (who2:Int) (c3:List TPart):Int × List R25Row → M (M.Step (Int × List R25Row) (List R25Row)):=fun ⟨i26,out27⟩=>
 cond ((decide (i26 < (List.length m1:Int))))
  (M.bind (M.idx m1 i26) fun x29=>
  M.bind (cond (decide (x29.who = who2))
   (M.bind (M.det (r09_Join x29.c c3)) fun v33=>
   M.pure v33)
   (M.pure x29.c)) (fun x31=>
  M.need ((List.length out27 + List.length ([(⟨x29.who,x31⟩:R25Row)])) * 32 ≤ 140737488355328) <|
  M.pure (.next (((IntKind.i64.wrap (i26 + 1)),(out27 ++ [(⟨x29.who,x31⟩:R25Row)]))))))
  (M.pure (.done out27))
def r25_Hear (m1:List R25Row) (who2:Int) (c3:List TPart):M (List R25Row × Int):=
 M.bind (M.det (r25_Is m1 who2)) fun v4=>
 cond (!v4)
  (M.pure (m1,6))
  (M.bind (M.loop (r25_Hear_l0 m1 who2 c3) (0,([]:List R25Row))) (fun out7=>
  M.pure (out7,0)))

def r25_Get_l0 (m1:List R25Row) (who2:Int):Int → M (M.Step Int (M.Ex Unit (List TPart))):=fun i_16=>
 cond ((decide (i_16 < (List.length m1:Int))))
  (M.bind (M.idx m1 i_16) fun x18=>
  cond (decide (x18.who = who2))
   (M.bind (M.idx m1 i_16) fun x21=>
   M.pure (.done (.ret x21.c)))
   (M.pure (.next (IntKind.i64.wrap (i_16 + 1)))))
  (M.pure (.done (.brk ())))
def r25_Get (m1:List R25Row) (who2:Int):M (List TPart):=
 M.bind (M.loop (r25_Get_l0 m1 who2) 0) (M.exk (fun _=>
 M.pure ([]:List TPart)))

def r25_Below_l0 (a1:List R25Row) (b2:List R25Row):Int → M (M.Step Int (M.Ex Unit Bool)):=fun i36=>
 cond ((decide (i36 < (List.length a1:Int))))
  (M.bind (M.bind (M.idx a1 i36) fun x39=>
  M.bind (M.det (r25_Is b2 x39.who)) fun v41=>
  cond (!v41)
   (M.pure true)
   (M.bind (M.idx a1 i36) fun x44=>
   M.bind (M.idx a1 i36) fun x46=>
   M.bind (M.det (r25_Get b2 x46.who)) fun v48=>
   M.bind (M.det (r09_Within x44.c v48)) fun v50=>
   M.pure (!v50))) (fun v38=>
  cond v38
   (M.pure (.done (.ret false)))
   (M.pure (.next (IntKind.i64.wrap (i36 + 1))))))
  (M.pure (.done (.brk ())))
def r25_Below (a1:List R25Row) (b2:List R25Row):M Bool:=
 M.bind (M.loop (r25_Below_l0 a1 b2) 0) (M.exk (fun _=>
 M.pure true))

def l25_step_o (x1:List R25Row) (a2:L25Act) (nl3:Bool) (m4:List ((Int × Int) × List TRun)):M (List R25Row × Bool × Bool × (List ((Int × Int) × List TRun))):=
 M.bind (cond (decide (a2.kind = 0))
  (M.bind (M.det (r25_Join x1 a2.who)) fun v8=>
  M.bind (M.det (ack_Matrix_Join_o a2.who nl3 m4)) fun y10=>
  M.pure (.ret (v8.1,(y10.1 == v8.2),y10.2.1,y10.2.2)))
  (cond (decide (a2.kind = 1))
   (M.bind (M.det (r25_Leave x1 a2.who)) fun v13=>
   M.bind (M.det (ack_Matrix_Leave_o a2.who nl3 m4)) fun y15=>
   M.pure (.ret (v13.1,(y15.1 == v13.2),y15.2.1,y15.2.2)))
   (M.bind (cond (decide (a2.kind = 2))
    (M.pure (decide (a2.kind = 2)))
    (M.pure (decide (a2.kind = 3)))) (fun v17=>
   cond v17
    (M.bind (M.det (r25_Hear x1 a2.who a2.c)) fun v20=>
    M.bind (M.det (ack_Matrix_Hear_o a2.who a2.c nl3 m4)) fun y22=>
    M.pure (.ret (((v20.1,(decide (y22.1 = v20.2)),y22.2.1,y22.2.2)))))
    (cond (decide (a2.kind = 4))
     (M.bind (ack_Matrix_Copy_o nl3 m4) fun y25=>
     M.bind (M.det (ack_Matrix_Join_o 7 nl3 m4)) fun y27=>
     M.bind (M.det (ack_Matrix_Hear_o a2.who a2.c y27.2.1 y27.2.2)) fun y29=>
     M.bind (M.det (ack_Matrix_Leave_o 1 y29.2.1 y29.2.2)) fun y31=>
     M.pure (.brk (y25.1,y25.2)))
     (M.pure (.brk (nl3,m4)))))))) (M.exk (fun ⟨nl5,v6⟩=>
 M.pure (x1,true,nl5,v6)))

def ack_Below_o1_l0 (y3:List Int) (nl1:Bool) (m2:List ((Int × Int) × List TRun)):Int → M (M.Step Int (M.Ex Unit Bool)):=fun v34=>
 cond ((decide (v34 < (List.length y3:Int))))
  (M.bind (M.idx y3 v34) fun x36=>
  M.bind (M.bind (M.det (ack_Matrix_is_o x36 nl1 m2)) fun y39=>
  cond (!y39)
   (M.pure true)
   (M.bind (M.det (ack_Matrix_Row_o x36 nl1 m2)) fun y42=>
   M.bind (M.det (ack_Matrix_Row_o x36 nl1 m2)) fun y44=>
   M.bind (M.det (ctx_Within y42 y44)) fun v46=>
   M.pure (!v46))) (fun v38=>
  cond v38
   (M.pure (.done (.ret false)))
   (M.pure (.next (IntKind.i64.wrap (v34 + 1))))))
  (M.pure (.done (.brk ())))
def ack_Below_o1 (nl1:Bool) (m2:List ((Int × Int) × List TRun)):M Bool:=
 M.bind (M.det (ack_Matrix_Members_o nl1 m2)) fun y3=>
 M.bind (M.loop (ack_Below_o1_l0 y3 nl1 m2) 0) (M.exk (fun _=>
 M.pure true))

def ack_Matrix_Members_nil :M (List Int):=
 M.pure ([]:List Int)

def ack_Matrix_Row_nil (who1:Int):M (List TPart):=
 M.pure ([]:List TPart)

def ack_Below_o2_l0 (v3:List Int) (nl1:Bool) (m2:List ((Int × Int) × List TRun)):Int → M (M.Step Int (M.Ex Unit Bool)):=fun v34=>
 cond ((decide (v34 < ((List.length v3):Int))))
  (M.bind (M.idx v3 v34) fun x36=>
  M.bind (M.bind (M.det (ack_Matrix_is_o x36 nl1 m2)) fun y39=>
  cond (!y39)
   (M.pure true)
   (M.bind (M.det (ack_Matrix_Row_nil x36)) fun v42=>
   M.bind (M.det (ack_Matrix_Row_o x36 nl1 m2)) fun y44=>
   M.bind (M.det (ctx_Within v42 y44)) fun v46=>
   M.pure (!v46))) (fun v38=>
  cond v38
   (M.pure (.done (.ret false)))
   (M.pure (.next (IntKind.i64.wrap (v34 + 1))))))
  (M.pure (.done (.brk ())))
def ack_Below_o2 (nl1:Bool) (m2:List ((Int × Int) × List TRun)):M Bool:=
 M.bind (M.det (ack_Matrix_Members_nil)) fun v3=>
 M.bind (M.loop (ack_Below_o2_l0 v3 nl1 m2) 0) (M.exk (fun _=>
 M.pure true))

def ack_Matrix_is_nil (who1:Int):M Bool:=
 M.pure false

def ack_Below_o3_l0 (y3:List Int):Unit → M (M.Step Unit (M.Ex Unit Bool)):=fun _=>
 cond ((decide (0 < (List.length y3:Int))))
  (M.bind (M.idx y3 0) fun x11=>
  M.bind (M.det (ack_Matrix_is_nil x11)) fun _=>
  M.pure (.done (.ret false)))
  (M.pure (.done (.brk ())))
def ack_Below_o3 (nl1:Bool) (m2:List ((Int × Int) × List TRun)):M Bool:=
 M.bind (M.det (ack_Matrix_Members_o nl1 m2)) fun y3=>
 M.bind (M.loop (ack_Below_o3_l0 y3) ()) (M.exk (fun _=>
 M.pure true))

def l25_AckBelow_l0 (l1:List L25Act):List R25Row × Bool × Int × Bool × (List ((Int × Int) × List TRun)) → M (M.Step (List R25Row × Bool × Int × Bool × (List ((Int × Int) × List TRun))) (List R25Row × Bool × Bool × (List ((Int × Int) × List TRun)))):=fun ⟨x39,ok40,i41,nl42,v43⟩=>
 M.bind (cond ((decide (i41 < (List.length l1:Int))))
  (M.pure ok40)
  (M.pure false)) (fun v44=>
 cond v44
  (M.bind (M.idx l1 i41) fun x47=>
  M.bind (M.detp (fun y=>(y.1,y.2.1)) (l25_step_o x39 x47 nl42 v43)) fun y49=>
  M.pure (.next ((y49.1,y49.2.1,(IntKind.i64.wrap (i41 + 1)),y49.2.2.1,y49.2.2.2))))
  (M.pure (.done (x39,ok40,nl42,v43))))
def l25_AckBelow_l1 (k2:List L25Act):List R25Row × Bool × Int × Bool × (List ((Int × Int) × List TRun)) → M (M.Step (List R25Row × Bool × Int × Bool × (List ((Int × Int) × List TRun))) (List R25Row × Bool × Bool × (List ((Int × Int) × List TRun)))):=fun ⟨y74,ok75,i76,nl77,v78⟩=>
 M.bind (cond ((decide (i76 < (List.length k2:Int))))
  (M.pure ok75)
  (M.pure false)) (fun v79=>
 cond v79
  (M.bind (M.idx k2 i76) fun x82=>
  M.bind (M.detp (fun y=>(y.1,y.2.1)) (l25_step_o y74 x82 nl77 v78)) fun y84=>
  M.pure (.next ((y84.1,y84.2.1,(IntKind.i64.wrap (i76 + 1)),y84.2.2.1,y84.2.2.2))))
  (M.pure (.done (y74,ok75,nl77,v78))))
def l25_AckBelow (l1:List L25Act) (k2:List L25Act):M Bool:=
 M.bind (M.bind (M.det (l25_few l1)) fun v4=>
 cond (!v4)
  (M.pure true)
  (M.bind (M.det (l25_few k2)) fun v7=>
  M.pure (!v7))) (fun v3=>
 cond v3
  (M.bind (M.det (l25_works)) fun v10=>
  M.pure v10)
  (M.bind (M.det (ack_New_o)) fun y12=>
  M.bind (M.det (ack_New_o)) fun y14=>
  M.bind (M.loop (l25_AckBelow_l0 l1) (([]:List R25Row),true,0,y12.1,y12.2)) (fun ⟨x16,ok17,nl18,v19⟩=>
  M.bind (M.loop (l25_AckBelow_l1 k2) (([]:List R25Row),ok17,0,y14.1,y14.2)) (fun ⟨y51,ok52,nl53,v54⟩=>
  M.bind (cond ok52
   (M.bind (M.det (ack_Below_o nl18 v19 nl53 v54)) fun y88=>
   M.bind (M.det (r25_Below x16 y51)) fun v90=>
   cond (y88 == v90)
    (M.bind (M.det (ack_Below_o nl53 v54 nl18 v19)) fun y93=>
    M.bind (M.det (r25_Below y51 x16)) fun v95=>
    cond (y93 == v95)
     (M.bind (M.det (ack_Below_o1 nl18 v19)) fun y98=>
     cond y98
      (M.bind (M.det (ack_Below_o2 nl18 v19)) fun y101=>
      cond y101
       (M.bind (M.det (ack_Below_o3 nl18 v19)) fun y104=>
       cond ((y104 == ((decide ((List.length x16:Int) = 0)))))
        (M.bind (M.det (l25_works)) fun v107=>
        M.pure v107)
        (M.pure false))
       (M.pure false))
      (M.pure false))
     (M.pure false))
    (M.pure false))
   (M.pure false)) (fun v86=>
  M.pure v86)))))

end Go.Ep

namespace Go.Proofs
open Go.Shelf
def Tryz.pdq90_ren : Go.Shelf.Ren:=⟨fun | 14=>90 | 20=>102 | 21=>103 | 22=>104 | 23=>105 | 24=>106 | 25=>107 | 26=>108 | 27=>109 | 46=>121 | 47=>95 | 48=>96 | 49=>122 | 50=>123 | 15=>57 | 57=>128 | 28=>81 | 29=>82 | n=>n,fun | 24=>65 | 22=>23 | 3=>3 | 25=>98 | 4=>4 | 0=>0 | 46=>104 | 45=>103 | 50=>109 | 66=>123 | 39=>93 | 55=>56 | 70=>127 | 76=>139 | 77=>140 | 53=>112 | 5=>5 | 9=>9 | n=>n,fun | n=>n⟩
theorem Tryz.pdq90 : Go.Proofs.SlLaysF0.n14 Tryz.prog Tryz.pdq90_ren:={
 mixed:=by kernel_rfl
 f14:=⟨Tryz.f90.name,by decide,Tryz.func90.trans (congrArg some (by kernel_rfl))⟩
 f15:=Tryz.func57.trans (congrArg some (by kernel_rfl))
 f20:=⟨Tryz.f102.name,by decide,Tryz.func102.trans (congrArg some (by kernel_rfl))⟩
 f21:=⟨Tryz.f103.name,by decide,Tryz.func103.trans (congrArg some (by kernel_rfl))⟩
 f22:=⟨Tryz.f104.name,by decide,Tryz.func104.trans (congrArg some (by kernel_rfl))⟩
 f23:=⟨Tryz.f105.name,by decide,Tryz.func105.trans (congrArg some (by kernel_rfl))⟩
 f24:=⟨Tryz.f106.name,by decide,Tryz.func106.trans (congrArg some (by kernel_rfl))⟩
 f25:=⟨Tryz.f107.name,by decide,Tryz.func107.trans (congrArg some (by kernel_rfl))⟩
 f26:=⟨Tryz.f108.name,by decide,Tryz.func108.trans (congrArg some (by kernel_rfl))⟩
 f27:=⟨Tryz.f109.name,by decide,Tryz.func109.trans (congrArg some (by kernel_rfl))⟩
 f28:=Tryz.func81.trans (congrArg some (by kernel_rfl))
 f29:=Tryz.func82.trans (congrArg some (by kernel_rfl))
 f46:=⟨Tryz.f121.name,by decide,Tryz.func121.trans (congrArg some (by kernel_rfl))⟩
 f47:=Tryz.func95.trans (congrArg some (by kernel_rfl))
 f48:=Tryz.func96.trans (congrArg some (by kernel_rfl))
 f49:=⟨Tryz.f122.name,by decide,Tryz.func122.trans (congrArg some (by kernel_rfl))⟩
 f50:=⟨Tryz.f123.name,by decide,Tryz.func123.trans (congrArg some (by kernel_rfl))⟩
 f57:=⟨Tryz.f128.name,by decide,Tryz.func128.trans (congrArg some (by kernel_rfl))⟩
 t0:=Tryz.underlying0
 a0:=Tryz.isAgg0
 z0:=Tryz.sizeOf0
 v0:=Tryz.zeroValue0
 t3:=Tryz.underlying3
 a3:=Tryz.isAgg3
 z3:=Tryz.sizeOf3
 v3:=Tryz.zeroValue3
 t4:=Tryz.underlying4
 a4:=Tryz.isAgg4
 z4:=Tryz.sizeOf4
 v4:=Tryz.zeroValue4
 t5:=Tryz.underlying5
 a5:=Tryz.isAgg5
 z5:=Tryz.sizeOf5
 v5:=Tryz.zeroValue5
 t9:=Tryz.underlying9
 a9:=Tryz.isAgg9
 z9:=Tryz.sizeOf9
 v9:=Tryz.zeroValue9
 t22:=Tryz.underlying23
 a22:=Tryz.isAgg23
 z22:=Tryz.sizeOf23
 v22:=Tryz.zeroValue23
 t25:=Tryz.underlying98
 a25:=Tryz.isAgg98
 z25:=Tryz.sizeOf98
 v25:=Tryz.zeroValue98
 t39:=Tryz.underlying93
 a39:=Tryz.isAgg93
 z39:=Tryz.sizeOf93
 v39:=Tryz.zeroValue93
 t45:=Tryz.underlying103
 a45:=Tryz.isAgg103
 z45:=Tryz.sizeOf103
 v45:=Tryz.zeroValue103
 t46:=Tryz.underlying104
 a46:=Tryz.isAgg104
 z46:=Tryz.sizeOf104
 v46:=Tryz.zeroValue104
 t50:=Tryz.underlying109
 a50:=Tryz.isAgg109
 z50:=Tryz.sizeOf109
 v50:=Tryz.zeroValue109
 t53:=Tryz.underlying112
 a53:=Tryz.isAgg112
 z53:=Tryz.sizeOf112
 v53:=Tryz.zeroValue112
 t55:=Tryz.underlying56
 a55:=Tryz.isAgg56
 z55:=Tryz.sizeOf56
 v55:=Tryz.zeroValue56
 t66:=Tryz.underlying123
 a66:=Tryz.isAgg123
 z66:=Tryz.sizeOf123
 v66:=Tryz.zeroValue123
 t70:=Tryz.underlying127
 a70:=Tryz.isAgg127
 z70:=Tryz.sizeOf127
 v70:=Tryz.zeroValue127
 t76:=Tryz.underlying139
 a76:=Tryz.isAgg139
 z76:=Tryz.sizeOf139
 v76:=Tryz.zeroValue139
 t77:=Tryz.underlying140
 a77:=Tryz.isAgg140
 z77:=Tryz.sizeOf140
 v77:=Tryz.zeroValue140 }
def Tryz.pdq101_ren : Go.Shelf.Ren:=⟨fun | 14=>101 | 20=>113 | 21=>114 | 22=>115 | 23=>116 | 24=>117 | 25=>118 | 26=>119 | 27=>120 | 46=>125 | 47=>95 | 48=>96 | 49=>126 | 50=>127 | 15=>57 | 57=>129 | 28=>81 | 29=>82 | n=>n,fun | 24=>72 | 22=>63 | 3=>3 | 25=>119 | 4=>4 | 0=>0 | 46=>104 | 45=>103 | 50=>109 | 66=>123 | 39=>93 | 55=>56 | 70=>127 | 76=>139 | 77=>140 | 53=>112 | 5=>5 | 9=>9 | n=>n,fun | n=>n⟩
theorem Tryz.pdq101 : Go.Proofs.SlLaysF0.n14 Tryz.prog Tryz.pdq101_ren:={
 mixed:=by kernel_rfl
 f14:=⟨Tryz.f101.name,by decide,Tryz.func101.trans (congrArg some (by kernel_rfl))⟩
 f15:=Tryz.func57.trans (congrArg some (by kernel_rfl))
 f20:=⟨Tryz.f113.name,by decide,Tryz.func113.trans (congrArg some (by kernel_rfl))⟩
 f21:=⟨Tryz.f114.name,by decide,Tryz.func114.trans (congrArg some (by kernel_rfl))⟩
 f22:=⟨Tryz.f115.name,by decide,Tryz.func115.trans (congrArg some (by kernel_rfl))⟩
 f23:=⟨Tryz.f116.name,by decide,Tryz.func116.trans (congrArg some (by kernel_rfl))⟩
 f24:=⟨Tryz.f117.name,by decide,Tryz.func117.trans (congrArg some (by kernel_rfl))⟩
 f25:=⟨Tryz.f118.name,by decide,Tryz.func118.trans (congrArg some (by kernel_rfl))⟩
 f26:=⟨Tryz.f119.name,by decide,Tryz.func119.trans (congrArg some (by kernel_rfl))⟩
 f27:=⟨Tryz.f120.name,by decide,Tryz.func120.trans (congrArg some (by kernel_rfl))⟩
 f28:=Tryz.func81.trans (congrArg some (by kernel_rfl))
 f29:=Tryz.func82.trans (congrArg some (by kernel_rfl))
 f46:=⟨Tryz.f125.name,by decide,Tryz.func125.trans (congrArg some (by kernel_rfl))⟩
 f47:=Tryz.func95.trans (congrArg some (by kernel_rfl))
 f48:=Tryz.func96.trans (congrArg some (by kernel_rfl))
 f49:=⟨Tryz.f126.name,by decide,Tryz.func126.trans (congrArg some (by kernel_rfl))⟩
 f50:=⟨Tryz.f127.name,by decide,Tryz.func127.trans (congrArg some (by kernel_rfl))⟩
 f57:=⟨Tryz.f129.name,by decide,Tryz.func129.trans (congrArg some (by kernel_rfl))⟩
 t0:=Tryz.underlying0
 a0:=Tryz.isAgg0
 z0:=Tryz.sizeOf0
 v0:=Tryz.zeroValue0
 t3:=Tryz.underlying3
 a3:=Tryz.isAgg3
 z3:=Tryz.sizeOf3
 v3:=Tryz.zeroValue3
 t4:=Tryz.underlying4
 a4:=Tryz.isAgg4
 z4:=Tryz.sizeOf4
 v4:=Tryz.zeroValue4
 t5:=Tryz.underlying5
 a5:=Tryz.isAgg5
 z5:=Tryz.sizeOf5
 v5:=Tryz.zeroValue5
 t9:=Tryz.underlying9
 a9:=Tryz.isAgg9
 z9:=Tryz.sizeOf9
 v9:=Tryz.zeroValue9
 t22:=Tryz.underlying63
 a22:=Tryz.isAgg63
 z22:=Tryz.sizeOf63
 v22:=Tryz.zeroValue63
 t25:=Tryz.underlying119
 a25:=Tryz.isAgg119
 z25:=Tryz.sizeOf119
 v25:=Tryz.zeroValue119
 t39:=Tryz.underlying93
 a39:=Tryz.isAgg93
 z39:=Tryz.sizeOf93
 v39:=Tryz.zeroValue93
 t45:=Tryz.underlying103
 a45:=Tryz.isAgg103
 z45:=Tryz.sizeOf103
 v45:=Tryz.zeroValue103
 t46:=Tryz.underlying104
 a46:=Tryz.isAgg104
 z46:=Tryz.sizeOf104
 v46:=Tryz.zeroValue104
 t50:=Tryz.underlying109
 a50:=Tryz.isAgg109
 z50:=Tryz.sizeOf109
 v50:=Tryz.zeroValue109
 t53:=Tryz.underlying112
 a53:=Tryz.isAgg112
 z53:=Tryz.sizeOf112
 v53:=Tryz.zeroValue112
 t55:=Tryz.underlying56
 a55:=Tryz.isAgg56
 z55:=Tryz.sizeOf56
 v55:=Tryz.zeroValue56
 t66:=Tryz.underlying123
 a66:=Tryz.isAgg123
 z66:=Tryz.sizeOf123
 v66:=Tryz.zeroValue123
 t70:=Tryz.underlying127
 a70:=Tryz.isAgg127
 z70:=Tryz.sizeOf127
 v70:=Tryz.zeroValue127
 t76:=Tryz.underlying139
 a76:=Tryz.isAgg139
 z76:=Tryz.sizeOf139
 v76:=Tryz.zeroValue139
 t77:=Tryz.underlying140
 a77:=Tryz.isAgg140
 z77:=Tryz.sizeOf140
 v77:=Tryz.zeroValue140 }
def Tryz.bits57_ren : Go.Shelf.Ren:=⟨fun | 15=>57 | 28=>81 | 29=>82 | n=>n,fun | 39=>93 | 3=>3 | 53=>112 | 55=>56 | 4=>4 | 5=>5 | 9=>9 | n=>n,fun | n=>n⟩
theorem Tryz.bits57 : Go.Proofs.SlLaysF0.n15 Tryz.prog Tryz.bits57_ren:={
 mixed:=by kernel_rfl
 f15:=Tryz.func57.trans (congrArg some (by kernel_rfl))
 f28:=Tryz.func81.trans (congrArg some (by kernel_rfl))
 f29:=Tryz.func82.trans (congrArg some (by kernel_rfl))
 t3:=Tryz.underlying3
 a3:=Tryz.isAgg3
 z3:=Tryz.sizeOf3
 v3:=Tryz.zeroValue3
 t4:=Tryz.underlying4
 a4:=Tryz.isAgg4
 z4:=Tryz.sizeOf4
 v4:=Tryz.zeroValue4
 t5:=Tryz.underlying5
 a5:=Tryz.isAgg5
 z5:=Tryz.sizeOf5
 v5:=Tryz.zeroValue5
 t9:=Tryz.underlying9
 a9:=Tryz.isAgg9
 z9:=Tryz.sizeOf9
 v9:=Tryz.zeroValue9
 t39:=Tryz.underlying93
 a39:=Tryz.isAgg93
 z39:=Tryz.sizeOf93
 v39:=Tryz.zeroValue93
 t53:=Tryz.underlying112
 a53:=Tryz.isAgg112
 z53:=Tryz.sizeOf112
 v53:=Tryz.zeroValue112
 t55:=Tryz.underlying56
 a55:=Tryz.isAgg56
 z55:=Tryz.sizeOf56
 v55:=Tryz.zeroValue56 }
end Go.Proofs

namespace Go.Ep
open Go.Shelf Go.RowKit Go.Lib Go.Sort Go.Proofs

theorem SortLaw.of {α:Type} [Inhabited α] {P:Program} {f g:FuncId} {k:Nat} {enc:α → List Value} {lt:α → α → Bool} {cf:α → α → Int} (hO:SWO (ltOf cf)) (hlt:∀ x y,ltOf cf x y = lt x y) (hk:∀ x,(enc x).length = k)
  (hnil:∀ w:World,Calls P f #[.slice none 0 0,.func (.func g) #[] #[]] w fun e w'=>e = .returned (.tuple #[]) ∧ Go.RowKit.Below w.heap.size w w')
  (hrow:∀ (blk off cap:Nat) (d:Array α) (w:World),HoldsK enc k w blk off d → blk < w.heap.size → d.size < 4611686018427387904 →
   Calls P f #[.slice (some ⟨blk,off,none⟩) d.size cap,.func (.func g) #[] #[]] w fun e w'=>e = .returned (.tuple #[]) ∧ ∃ n os,w' = sortWorldK enc k w blk off n (pdq (ltOf cf) d 0 d.size (Lib.bitLen d.size) true true) os):SortLaw P f g k enc lt:=by
 refine ⟨hnil,fun w blk cap l T cur hh hlc hcs hlen hcells=>?_⟩;have hblk:blk < w.heap.size:=(Array.getElem?_eq_some_iff.1 hh).1;have hH:HoldsK enc k w blk 0 l.toArray:=by
  intro j hj;rw [size_flatK] at hj;have hj':j < l.length * k:=by simpa using hj
  obtain ⟨hk0,h1,h2,h3⟩:=idx_split hj'
  constructor
  ·rw [Nat.zero_add,cell_of_heap hh];show _ = some ((flatK enc k l.toArray)[j]!);rw [get_flatK _ _ _ _ hj];have hx:l[j / k]? = some l[j / k]:=List.getElem?_eq_getElem h1;have hlk:(enc l[j / k]).length = k:=hk _;have hu:(enc l[j / k])[j % k]? = some ((enc l[j / k])[j % k]'(by omega)):=List.getElem?_eq_getElem (by omega);have:=hcells (j / k) _ (j % k) _ hx hu;rw [h3] at this;rw [this];have e1:(l.toArray)[j / k]! = l[j / k]:=by simp [h1]
   rw [e1];simp [hu]
  ·simp [World.frozen?,hh]
 have hd:l.toArray.size = l.length:=by simp
 have hcall:=hrow blk 0 cap l.toArray w hH hblk (by simpa using hlen);rw [hd] at hcall;refine hcall.mono fun e w' ⟨he,n,os,hw⟩=>⟨he,?_⟩
 have hp:=pdq_sorts (ltOf cf) hO l.toArray 0 l.toArray.size (Lib.bitLen l.toArray.size) true true (Nat.zero_le _) (Nat.le_refl _) (Or.inl rfl);rw [hd] at hp
 generalize pdq (ltOf cf) l.toArray 0 l.length (Lib.bitLen l.length) true true = d' at hp hw
 obtain ⟨⟨hsz,_,hperm⟩,hsort⟩:=hp;have hsz':d'.size = l.length:=by simpa using hsz
 have hp':d'.toList.Perm l:=by
  have e1:(d'.extract 0 l.length).toList = d'.toList:=by rw [← hsz'];simp
  have e2:(l.toArray.extract 0 l.length).toList = l:=by simp
  rw [e1,e2] at hperm;exact hperm
 have hmod:∀ b,b < w.heap.size → (sortWorldK enc k w blk 0 n d' os).heap[b]? = if blk = b then (w.heap[b]?).map (onCells (putCells id 0 (flatK enc k d'))) else w.heap[b]?:=by
  intro b hb;have hb2:b < (putRowK enc k (Sort.ahead w n) blk 0 d').heap.size:=by simpa [putRowK,Sort.ahead] using hb
  show (grow (putRowK enc k (Sort.ahead w n) blk 0 d') os).heap[b]? = _;rw [Sort.heap_grow_old _ _ hb2];show ((w.heap.modify blk (onCells (putCells id 0 (flatK enc k d')))))[b]? = _;rw [Array.getElem?_modify]
 subst hw;refine ⟨d'.toList,(putCells id 0 (flatK enc k d') cur.toArray).toList,hp',?_,?_,?_,?_,rfl,rfl,rfl,?_,?_⟩
 ·rw [List.pairwise_iff_getElem];intro i j hi hj hij;have:=hsort i j (Nat.zero_le _) hij (by simpa [hsz'] using hj);rw [hlt] at this;have hi':i < d'.size:=by simpa using hi
  have hj':j < d'.size:=by simpa using hj
  simpa [hi',hj'] using this
 ·rw [hmod blk hblk,if_pos rfl,hh];simp [onCells]
 ·simp [putCells]
 ·intro i x j u hi hu;have hi':i < l.length:=by rw [← hsz'];have:=(List.getElem?_eq_some_iff.1 hi).1;simpa using this
  have hj:j < k:=by rw [← hk x];exact (List.getElem?_eq_some_iff.1 hu).1
  have hlt2:i * k + j < l.length * k:=idx_lt hi' hj;have hcl:l.length * k ≤ cur.length:=by rw [hcs];exact Nat.mul_le_mul_right k hlc
  have hin:i * k + j < d'.size * k:=by rw [hsz'];exact hlt2
  have hget:(flatK enc k d')[i * k + j]! = u:=by
   rw [get_flatK _ _ _ _ hin];have hk0:0 < k:=by omega
   have e1:(i * k + j) / k = i:=by rw [Nat.mul_comm,Nat.mul_add_div hk0,Nat.div_eq_of_lt hj];omega
   have e2:(i * k + j) % k = j:=by rw [Nat.mul_comm,Nat.mul_add_mod,Nat.mod_eq_of_lt hj]
   rw [e1,e2];have e3:d'[i]! = x:=by
    obtain ⟨h1,h2⟩:=List.getElem?_eq_some_iff.1 hi;have h1':i < d'.size:=by simpa using h1
    rw [getElem!_pos d' i h1'];simpa using h2
   rw [e3];simp [hu]
  have hc2:i * k + j < cur.length:=by omega
  simp only [putCells,Array.toList_mapIdx,List.getElem?_mapIdx];rw [List.getElem?_eq_getElem hc2];simp only [Option.map_some,id];rw [if_pos ⟨Nat.zero_le _,by rw [size_flatK];omega⟩,Nat.sub_zero,hget]
 ·show w.heap.size ≤ (grow (putRowK enc k (Sort.ahead w n) blk 0 d') os).heap.size;simp [grow,putRowK,Sort.ahead]
 ·intro b hb hne;rw [hmod b hb,if_neg (Ne.symm hne)]
end Go.Ep

namespace Go.Proofs
set_option linter.unusedSimpArgs false
set_option linter.unusedVariables false
open Go.Shelf Go.RowKit Go.Lib Go.Sort Go.Ep
theorem nanu16 (a:Int) (W:World):Calls Tryz.prog 91 #[.int .u16 a] W fun e w'=>e = .returned (.bool false) ∧ w' = W:=by
 go_enter Tryz.func91,Tryz.ntmps91
 go_wp2
 go_ret
 exact ⟨by simp,rfl⟩
theorem cmpu16 (a b:Int) (W:World):Calls Tryz.prog 66 #[.int .u16 a,.int .u16 b] W fun e w'=>e = .returned (.int .i64 (Lib.compareInt a b)) ∧ w' = W:=by
 unfold Lib.compareInt
 by_cases h1:a < b
 ·go_enter Tryz.func66,Tryz.ntmps66
  go_wp2_with (go_at_call 91;refine (nanu16 _ _).mono ?_;rintro e w' ⟨rfl,rfl⟩)
  go_ret
  exact ⟨by simp [h1],rfl⟩
 ·by_cases h2:b < a
  ·go_enter Tryz.func66,Tryz.ntmps66
   go_wp2_with (go_at_call 91;refine (nanu16 _ _).mono ?_;rintro e w' ⟨rfl,rfl⟩)
   go_ret
   exact ⟨by simp [h1,h2],rfl⟩
  ·go_enter Tryz.func66,Tryz.ntmps66
   go_wp2_with (go_at_call 91;refine (nanu16 _ _).mono ?_;rintro e w' ⟨rfl,rfl⟩)
   go_ret
   exact ⟨by simp [h1,h2],rfl⟩
theorem nanu64 (a:Int) (W:World):Calls Tryz.prog 100 #[.int .u64 a] W fun e w'=>e = .returned (.bool false) ∧ w' = W:=by
 go_enter Tryz.func100,Tryz.ntmps100
 go_wp2
 go_ret
 exact ⟨by simp,rfl⟩
theorem cmpu64 (a b:Int) (W:World):Calls Tryz.prog 86 #[.int .u64 a,.int .u64 b] W fun e w'=>e = .returned (.int .i64 (Lib.compareInt a b)) ∧ w' = W:=by
 unfold Lib.compareInt
 by_cases h1:a < b
 ·go_enter Tryz.func86,Tryz.ntmps86
  go_wp2_with (go_at_call 100;refine (nanu64 _ _).mono ?_;rintro e w' ⟨rfl,rfl⟩)
  go_ret
  exact ⟨by simp [h1],rfl⟩
 ·by_cases h2:b < a
  ·go_enter Tryz.func86,Tryz.ntmps86
   go_wp2_with (go_at_call 100;refine (nanu64 _ _).mono ?_;rintro e w' ⟨rfl,rfl⟩)
   go_ret
   exact ⟨by simp [h1,h2],rfl⟩
  ·go_enter Tryz.func86,Tryz.ntmps86
   go_wp2_with (go_at_call 100;refine (nanu64 _ _).mono ?_;rintro e w' ⟨rfl,rfl⟩)
   go_ret
   exact ⟨by simp [h1,h2],rfl⟩
structure RawTPart where
 dev_:Int
 c1:Value
 h1:c1.oneCell' = true
def RawTPart.v (r:RawTPart):List Value:=[.int .u16 r.dev_,r.c1]
theorem RawTPart.v1 (r:RawTPart):∀ u ∈ r.v,u.oneCell' = true:=by
 intro u hu;simp only [RawTPart.v,List.mem_cons,List.not_mem_nil,or_false] at hu;rcases hu with rfl | rfl
 ·rfl
 ·exact r.h1
def RawTPart.R (x:TPart) (r:RawTPart):Prop:=r.dev_ = x.dev
theorem RawTPart.raw (w:World) (S:Nat → Prop) (x:TPart) (us:List Value) (hl:us.length = 2) (h:∀ (j:Nat) (d:DV) (u:Value),(TPart.e x)[j]? = some d → us[j]? = some u → DRd w S d u):∃ r:RawTPart,r.v = us ∧ RawTPart.R x r:=by
 match us,hl with
 | [u0,u1],_=>
  refine ⟨⟨x.dev,u1,(h 1 _ u1 rfl rfl).one⟩,?_,rfl⟩;have e0:=h 0 _ u0 rfl rfl
  cases e0
  rfl
def cf64 (x y:RawTPart):Int:=Lib.compareInt x.dev_ y.dev_
theorem callcf64 (x y:RawTPart) (W:World):Calls Tryz.prog 65 #[.agg #[.int .u16 x.dev_,x.c1],.agg #[.int .u16 y.dev_,y.c1]] W fun e w'=>e = .returned (.int .i64 (cf64 x y)) ∧ ∃ q os',w' = grow (W.drewN q) os':=by
 have c1:=fun W'=>cmpu16 x.dev_ y.dev_ W'
 unfold cf64
 generalize Lib.compareInt x.dev_ y.dev_ = r1 at c1 ⊢
 go_enter Tryz.func65,Tryz.ntmps65
 go_wp2_with (go_at_call 66;refine (c1 _).mono ?_;rintro e w' ⟨rfl,rfl⟩)
 go_ret
 exact ⟨rfl,0,_,by rw [alloc_eq_grow,alloc_eq_grow,grow_grow];rfl⟩
theorem ltcf64 (x y:RawTPart):ltOf cf64 x y = (fun x y:RawTPart=>decide (x.dev_ < y.dev_)) x y:=by
 unfold ltOf cf64 Lib.compareInt ;rw [Bool.eq_iff_iff];simp only [decide_eq_true_eq,Bool.or_eq_true,Bool.and_eq_true]
 split <;> (repeat' split) <;> omega
theorem swocf64 : SWO (ltOf cf64) where
 irrefl x:=by rw [ltcf64];simp []
 trans x y z h1 h2:=by rw [ltcf64] at *;simp [] at *;omega
 ntrans x y z h1 h2:=by rw [ltcf64] at *;simp [] at *;omega
instance inhcf64 : Inhabited RawTPart:=⟨⟨0,.int .u64 0,rfl⟩⟩
theorem layscf64 (blk off size:Nat) (w:World):CmpLays Tryz.prog 65 #[] RawTPart.v 2 cf64 blk off size w:=fun _ _ _ _ x y=>callcf64 x y _
set_option maxHeartbeats 2000000 in
set_option maxRecDepth 100000 in
theorem sort64_eq (blk off cap:Nat) (d:Array RawTPart) (w:World) (hH:HoldsK RawTPart.v 2 w blk off d) (hblk:blk < w.heap.size) (hsz:d.size < 4611686018427387904) :
  Calls Tryz.prog 64 #[.slice (some ⟨blk,off,none⟩) d.size cap,.func (.func 65) #[] #[]] w fun e w'=>e = .returned (.tuple #[]) ∧ ∃ n os,w' = sortWorldK RawTPart.v 2 w blk off n (pdq (ltOf cf64) d 0 d.size (Lib.bitLen d.size) true true) os:=by
 have eg:∀ args w,(callFunc 65 args).run Tryz.prog w = .ok (.enter 65 args) w:=Tryz.call65;have e14:=Tryz.call90;have e15:=Tryz.call57;have hlim:Lib.bitLen d.size < 4611686018427387904:=Nat.lt_of_le_of_lt (Lib.bitLen_le d.size 62 (by omega) (by omega)) (by omega);have hp:=AnyQ.pdqsortCmpFunc_all Tryz.pdq90 2 Tryz.isAgg65 Tryz.sizeOf65 RawTPart.v cf64 65 #[] swocf64 blk off cap d w eg (layscf64 blk off d.size w) ⟨fun _=>rfl,RawTPart.v1,hH,hblk⟩ (d.size + 1) 0 d.size (Lib.bitLen d.size) d w (by omega) rfl (SWK.start hH) (Nat.zero_le _) (Nat.le_refl _) hsz hlim (Or.inl rfl)
 change Calls Tryz.prog 90 _ _ _ at hp
 have hl:Calls Tryz.prog 57 #[.int .u64 (d.size:Int)] w fun e w'=>e = .returned (.int .i64 (Lib.bitLen d.size:Nat)) ∧ w' = w:=by
  have h:=Any.bits_Len (SlLaysF0.n15.bits Tryz.bits57) (d.size:Int) w (by omega) (by omega)
  rwa [Int.toNat_natCast] at h
 have wr:IntKind.u64.wrap (d.size:Int) = d.size:=by simp [IntKind.wrap,IntKind.bits,IntKind.signed];omega
 clear hH
 go_enter Tryz.func64,Tryz.ntmps64
 go_wp2_with (first | (go_at_call 57;refine hl.mono ?_;rintro e w' ⟨rfl,rfl⟩) | (go_at_call 90;refine hp.mono ?_;rintro e w' ⟨rfl,n,os,rfl⟩))
 go_end0
 exact ⟨rfl,n,os,rfl⟩
theorem sort64_nil (w:World):Calls Tryz.prog 64 #[.slice none 0 0,.func (.func 65) #[] #[]] w fun e w'=>e = .returned (.tuple #[]) ∧ Go.RowKit.Below w.heap.size w w':=by
 have e14:=Tryz.call90;have e15:=Tryz.call57;have hp:=fun lim W=>AnyF.pdqsortCmpFunc_none Tryz.pdq90 none 0 lim (.func (.func 65) #[] #[]) W
 have hl:∀ W,Calls Tryz.prog 57 #[.int .u64 0] W fun e w'=>e = .returned (.int .i64 (Lib.bitLen 0:Nat)) ∧ w' = W:=fun W=>by
  have h:=Any.bits_Len (SlLaysF0.n15.bits Tryz.bits57) 0 W (by omega) (by omega);exact h
 go_enter Tryz.func64,Tryz.ntmps64
 go_wp2_with (first | (go_at_call 57;refine (hl _).mono ?_;rintro e w' ⟨rfl,rfl⟩) | (go_at_call 90;refine (hp _ _).mono ?_;rintro e w' ⟨rfl,rfl⟩))
 go_end0
 exact ⟨rfl,Go.RowKit.Below.refl _ _⟩
theorem srt64_65 : SortLaw Tryz.prog 64 65 2 RawTPart.v (fun x y:RawTPart=>decide (x.dev_ < y.dev_)):=SortLaw.of swocf64 ltcf64 (fun _=>rfl) sort64_nil (fun blk off cap d w hH hblk hsz=>sort64_eq blk off cap d w hH hblk hsz)
theorem rlt64 (x y:TPart) (r r':RawTPart) (h1:RawTPart.R x r) (h2:RawTPart.R y r'):((fun x y:RawTPart=>decide (x.dev_ < y.dev_))) r r' = ltPart x y:=by simp only [RawTPart.R] at h1 h2;simp [h1,h2,ltPart]
def cf88 (x y:TRun):Int:=Lib.compareInt x.lo y.lo
theorem callcf88 (x y:TRun) (W:World):Calls Tryz.prog 89 #[.agg #[.int .u64 x.lo,.int .u64 x.hi],.agg #[.int .u64 y.lo,.int .u64 y.hi]] W fun e w'=>e = .returned (.int .i64 (cf88 x y)) ∧ ∃ q os',w' = grow (W.drewN q) os':=by
 have c1:=fun W'=>cmpu64 x.lo y.lo W'
 unfold cf88
 generalize Lib.compareInt x.lo y.lo = r1 at c1 ⊢
 go_enter Tryz.func89,Tryz.ntmps89
 go_wp2_with (go_at_call 86;refine (c1 _).mono ?_;rintro e w' ⟨rfl,rfl⟩)
 go_ret
 exact ⟨rfl,0,_,by rw [alloc_eq_grow,alloc_eq_grow,grow_grow];rfl⟩
theorem ltcf88 (x y:TRun):ltOf cf88 x y = ltRun x y:=by
 unfold ltOf cf88 Lib.compareInt ltRun;rw [Bool.eq_iff_iff];simp only [decide_eq_true_eq,Bool.or_eq_true,Bool.and_eq_true]
 split <;> (repeat' split) <;> omega
theorem swocf88 : SWO (ltOf cf88) where
 irrefl x:=by rw [ltcf88];simp [ltRun]
 trans x y z h1 h2:=by rw [ltcf88] at *;simp [ltRun] at *;omega
 ntrans x y z h1 h2:=by rw [ltcf88] at *;simp [ltRun] at *;omega
instance inhcf88 : Inhabited TRun:=⟨⟨0,0⟩⟩
theorem layscf88 (blk off size:Nat) (w:World):CmpLays Tryz.prog 89 #[] TRun.v 2 cf88 blk off size w:=fun _ _ _ _ x y=>callcf88 x y _
set_option maxHeartbeats 2000000 in
set_option maxRecDepth 100000 in
theorem sort88_eq (blk off cap:Nat) (d:Array TRun) (w:World) (hH:HoldsK TRun.v 2 w blk off d) (hblk:blk < w.heap.size) (hsz:d.size < 4611686018427387904) :
  Calls Tryz.prog 88 #[.slice (some ⟨blk,off,none⟩) d.size cap,.func (.func 89) #[] #[]] w fun e w'=>e = .returned (.tuple #[]) ∧ ∃ n os,w' = sortWorldK TRun.v 2 w blk off n (pdq (ltOf cf88) d 0 d.size (Lib.bitLen d.size) true true) os:=by
 have eg:∀ args w,(callFunc 89 args).run Tryz.prog w = .ok (.enter 89 args) w:=Tryz.call89;have e14:=Tryz.call101;have e15:=Tryz.call57;have hlim:Lib.bitLen d.size < 4611686018427387904:=Nat.lt_of_le_of_lt (Lib.bitLen_le d.size 62 (by omega) (by omega)) (by omega);have hp:=AnyQ.pdqsortCmpFunc_all Tryz.pdq101 2 Tryz.isAgg72 Tryz.sizeOf72 TRun.v cf88 89 #[] swocf88 blk off cap d w eg (layscf88 blk off d.size w) ⟨fun _=>rfl,TRun.v1,hH,hblk⟩ (d.size + 1) 0 d.size (Lib.bitLen d.size) d w (by omega) rfl (SWK.start hH) (Nat.zero_le _) (Nat.le_refl _) hsz hlim (Or.inl rfl)
 change Calls Tryz.prog 101 _ _ _ at hp
 have hl:Calls Tryz.prog 57 #[.int .u64 (d.size:Int)] w fun e w'=>e = .returned (.int .i64 (Lib.bitLen d.size:Nat)) ∧ w' = w:=by
  have h:=Any.bits_Len (SlLaysF0.n15.bits Tryz.bits57) (d.size:Int) w (by omega) (by omega)
  rwa [Int.toNat_natCast] at h
 have wr:IntKind.u64.wrap (d.size:Int) = d.size:=by simp [IntKind.wrap,IntKind.bits,IntKind.signed];omega
 clear hH
 go_enter Tryz.func88,Tryz.ntmps88
 go_wp2_with (first | (go_at_call 57;refine hl.mono ?_;rintro e w' ⟨rfl,rfl⟩) | (go_at_call 101;refine hp.mono ?_;rintro e w' ⟨rfl,n,os,rfl⟩))
 go_end0
 exact ⟨rfl,n,os,rfl⟩
theorem sort88_nil (w:World):Calls Tryz.prog 88 #[.slice none 0 0,.func (.func 89) #[] #[]] w fun e w'=>e = .returned (.tuple #[]) ∧ Go.RowKit.Below w.heap.size w w':=by
 have e14:=Tryz.call101;have e15:=Tryz.call57;have hp:=fun lim W=>AnyF.pdqsortCmpFunc_none Tryz.pdq101 none 0 lim (.func (.func 89) #[] #[]) W
 have hl:∀ W,Calls Tryz.prog 57 #[.int .u64 0] W fun e w'=>e = .returned (.int .i64 (Lib.bitLen 0:Nat)) ∧ w' = W:=fun W=>by
  have h:=Any.bits_Len (SlLaysF0.n15.bits Tryz.bits57) 0 W (by omega) (by omega);exact h
 go_enter Tryz.func88,Tryz.ntmps88
 go_wp2_with (first | (go_at_call 57;refine (hl _).mono ?_;rintro e w' ⟨rfl,rfl⟩) | (go_at_call 101;refine (hp _ _).mono ?_;rintro e w' ⟨rfl,rfl⟩))
 go_end0
 exact ⟨rfl,Go.RowKit.Below.refl _ _⟩
theorem srt88_89 : SortLaw Tryz.prog 88 89 2 TRun.v ltRun:=SortLaw.of swocf88 ltcf88 (fun _=>rfl) sort88_nil (fun blk off cap d w hH hblk hsz=>sort88_eq blk off cap d w hH hblk hsz)
end Go.Proofs

