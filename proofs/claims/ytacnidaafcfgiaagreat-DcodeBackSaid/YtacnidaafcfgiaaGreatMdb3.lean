/- Texts that the walks and laws lean on, side by side. -/
import Derived.Test.YtacnidaafcfgiaaGreatProg
import Derived.Shelf.SlGeneric
import Derived.Shelf.SlLaysF0
import Derived.Ground.SlsfProg
import Derived.Shelf.SlSortCmp.WholeK
import Derived.Shelf.SlSortCmp.NoneTotal
import Derived.StillTactics
import Derived.RegionTactic
import Derived.Test.YtacnidaafcfgiaaGreatMdb2
namespace Go.Ep
open Go

def r06_Eq_l0 (a1 : List TRun) (b2 : List TRun) : Int → M (M.Step Int (M.Ex Unit Bool)) := fun i17 =>
  cond ((decide (i17 < (List.length a1 : Int))))
    (M.bind (M.idx a1 i17) fun x19 =>
    M.bind (M.idx b2 i17) fun x21 =>
    cond ((!(decide (x19.lo = x21.lo) && decide (x19.hi = x21.hi))))
      (M.pure (.done (.ret false)))
      (M.pure (.next (IntKind.i64.wrap (i17 + 1)))))
    (M.pure (.done (.brk ())))
/-- epitaph/epitaphref06.Eq -/
def r06_Eq (a1 : List TRun) (b2 : List TRun) : M Bool :=
  cond ((!decide ((List.length a1 : Int) = (List.length b2 : Int))))
    (M.pure false)
    (M.bind (M.loop (r06_Eq_l0 a1 b2) 0) (M.exk (fun _ =>
    M.pure true)))

def r09_Eq_l0 (a1 : List TPart) (b2 : List TPart) : Int → M (M.Step Int (M.Ex Unit Bool)) := fun i33 =>
  cond ((decide (i33 < (List.length a1 : Int))))
    (M.bind (M.bind (M.idx a1 i33) fun x36 =>
    M.bind (M.idx b2 i33) fun x38 =>
    cond (!decide (x36.dev = x38.dev))
      (M.pure true)
      (M.bind (M.idx a1 i33) fun x41 =>
      M.bind (M.idx b2 i33) fun x43 =>
      M.bind (M.det (r06_Eq x41.runs x43.runs)) fun v45 =>
      M.pure (!v45))) (fun v35 =>
    cond v35
      (M.pure (.done (.ret false)))
      (M.pure (.next (IntKind.i64.wrap (i33 + 1))))))
    (M.pure (.done (.brk ())))
/-- epitaph/epitaphref09.Eq -/
def r09_Eq (a1 : List TPart) (b2 : List TPart) : M Bool :=
  cond ((!decide ((List.length a1 : Int) = (List.length b2 : Int))))
    (M.pure false)
    (M.bind (M.loop (r09_Eq_l0 a1 b2) 0) (M.exk (fun _ =>
    M.pure true)))

def r07_Same_l0 (a1 : List TDot) (b2 : List TDot) : Int → M (M.Step Int (M.Ex Unit Bool)) := fun i17 =>
  cond ((decide (i17 < (List.length a1 : Int))))
    (M.bind (M.idx a1 i17) fun x19 =>
    M.bind (M.idx b2 i17) fun x21 =>
    cond ((!(decide (x19.dev = x21.dev) && decide (x19.n = x21.n))))
      (M.pure (.done (.ret false)))
      (M.pure (.next (IntKind.i64.wrap (i17 + 1)))))
    (M.pure (.done (.brk ())))
/-- epitaph/epitaphref07.Same -/
def r07_Same (a1 : List TDot) (b2 : List TDot) : M Bool :=
  cond ((!decide ((List.length a1 : Int) = (List.length b2 : Int))))
    (M.pure false)
    (M.bind (M.loop (r07_Same_l0 a1 b2) 0) (M.exk (fun _ =>
    M.pure true)))

/-- cmp.isNaN[uint64] -/
def cmp_isNaN_uint64 (x1 : Int) : M Bool :=
  M.pure (!decide (x1 = x1))

/-- cmp.Compare[uint64] -/
def cmp_Compare_uint64 (x1 : Int) (y2 : Int) : M Int :=
  M.bind (M.det (cmp_isNaN_uint64 x1)) fun v3 =>
  M.bind (M.det (cmp_isNaN_uint64 y2)) fun v5 =>
  cond v3
    (cond v5
      (M.pure 0)
      (M.pure (-1)))
    (cond v5
      (M.pure 1)
      (cond (decide (x1 < y2))
        (M.pure (-1))
        (cond (decide (y2 < x1))
          (M.pure 1)
          (M.pure 0))))

def runs_Norm_l0 (l1 : List TRun) : Int × List TRun → M (M.Step (Int × List TRun) (List TRun)) := fun ⟨v23, some24⟩ =>
  cond ((decide (v23 < (List.length l1 : Int))))
    (M.bind (M.bind (M.idx l1 v23) fun x27 =>
    M.bind (cond (decide (0 < x27.lo))
      (cond (decide (x27.lo ≤ x27.hi))
        (M.pure (decide (x27.hi ≤ 281474976710655)))
        (M.pure false))
      (M.pure false)) (fun v29 =>
    cond v29
      (M.need ((List.length some24 + List.length ([x27])) * 16 ≤ 140737488355328) <|
      M.pure (some24 ++ [x27]))
      (M.pure some24))) (fun some26 =>
    M.pure (.next (((IntKind.i64.wrap (v23 + 1)), some26)))))
    (M.pure (.done some24))
def runs_Norm_l1 (some2 : List TRun) (s34 : List TRun) : Int × List TRun → M (M.Step (Int × List TRun) (List TRun)) := fun ⟨v69, out70⟩ =>
  cond ((decide (v69 < ((List.length some2) : Int))))
    (M.bind (M.bind (M.idx s34 v69) fun x73 =>
    M.bind (cond ((decide (0 ≤ ((IntKind.i64.wrap (((List.length out70) : Int) - 1))))))
      (M.bind (M.idx out70 ((IntKind.i64.wrap (((List.length out70) : Int) - 1)))) fun x77 =>
      M.pure ((decide (x73.lo ≤ (IntKind.u64.wrap (x77.hi + 1))))))
      (M.pure false)) (fun v75 =>
    cond v75
      (M.bind (M.idx out70 ((IntKind.i64.wrap (((List.length out70) : Int) - 1)))) fun x80 =>
      M.bind (M.idx out70 ((IntKind.i64.wrap (((List.length out70) : Int) - 1)))) fun x82 =>
      M.pure ((List.set out70 ((Int.toNat ((IntKind.i64.wrap (((List.length out70) : Int) - 1))))) (⟨x82.lo, (max x80.hi x73.hi)⟩ : TRun))))
      (M.need ((List.length out70 + List.length ([x73])) * 16 ≤ 140737488355328) <|
      M.pure (out70 ++ [x73])))) (fun out72 =>
    M.pure (.next (((IntKind.i64.wrap (v69 + 1)), out72)))))
    (M.pure (.done out70))
/-- epitaph/runs.Norm -/
def runs_Norm (l1 : List TRun) : M (List TRun) :=
  M.bind (M.loop (runs_Norm_l0 l1) (0, ([] : List TRun))) (fun some2 =>
  M.need (List.length some2 < 4611686018427387904) <| M.bind (M.srt ltRun some2) fun s34 =>
  M.bind (M.loop (runs_Norm_l1 some2 s34) (0, ([] : List TRun))) (fun out38 =>
  M.pure out38))

/-- cmp.isNaN[uint16] -/
def cmp_isNaN_uint16 (x1 : Int) : M Bool :=
  M.pure (!decide (x1 = x1))

/-- cmp.Compare[uint16] -/
def cmp_Compare_uint16 (x1 : Int) (y2 : Int) : M Int :=
  M.bind (M.det (cmp_isNaN_uint16 x1)) fun v3 =>
  M.bind (M.det (cmp_isNaN_uint16 y2)) fun v5 =>
  cond v3
    (cond v5
      (M.pure 0)
      (M.pure (-1)))
    (cond v5
      (M.pure 1)
      (cond (decide (x1 < y2))
        (M.pure (-1))
        (cond (decide (y2 < x1))
          (M.pure 1)
          (M.pure 0))))

def ctx_order_l0 (m1 : List (Int × List TRun)) : List Nat × List TPart → M (M.Step (List Nat × List TPart) (List TPart)) := fun ⟨seen28, c29⟩ =>
  M.need (∀ i ∈ seen28, i < List.length m1) <| M.bind (M.nxt (List.length m1) seen28) fun o => match o with
  | none =>
    M.pure (.done c29)
  | some j30 =>
    M.bind (M.idx m1 (Int.ofNat j30)) fun kv34 =>
    M.bind (M.det (runs_Norm kv34.2)) fun v36 =>
    cond ((decide (0 < ((List.length v36) : Int))))
      (M.need ((List.length c29 + List.length ([(⟨kv34.1, v36⟩ : TPart)])) * 32 ≤ 140737488355328) <|
      M.pure (.next (((seen28 ++ [j30]), (c29 ++ [(⟨kv34.1, v36⟩ : TPart)])))))
      (M.pure (.next ((seen28 ++ [j30]), c29)))
/-- epitaph/ctx.order -/
def ctx_order (m1 : List (Int × List TRun)) : M (List TPart) :=
  M.bind (M.loop (ctx_order_l0 m1) ([], ([] : List TPart))) (fun c3 =>
  M.need (List.length c3 < 4611686018427387904) <| M.bind (M.srt ltPart c3) fun s41 =>
  M.pure s41)

def ctx_toldF (p : TPart) : Option (Int × List TRun) := if 0 < p.dev then some (p.dev, p.runs) else none
/-- epitaph/ctx.told -/
def ctx_told (c1 : List TPart) : M (List (Int × List TRun)) :=
  M.need (AL.growOK 16 (List.length c1) (List.filterMap ctx_toldF c1)) <|
  M.pure ((AL.grow ([] : List (Int × List TRun)) (List.filterMap ctx_toldF c1)))

/-- epitaph/ctx.Norm -/
def ctx_Norm (c1 : List TPart) : M (List TPart) :=
  M.bind (M.det (ctx_told c1)) fun v2 =>
  M.bind (M.det (ctx_order v2)) fun v5 =>
  M.pure v5

def shift_Len_l0  : Int × Int → M (M.Step (Int × Int) Int) := fun ⟨v7, n8⟩ =>
  cond (decide (0 < v7))
    (M.pure (.next (((Int.fdiv v7 (2 ^ 8)), (IntKind.i64.wrap (n8 + 1))))))
    (M.pure (.done n8))
/-- epitaph/shift.Len -/
def shift_Len (v1 : Int) : M Int :=
  M.bind (M.loop shift_Len_l0 (v1, 0)) (fun n2 =>
  M.pure n2)

/-- epitaph/shift.Byte -/
def shift_Byte (v1 : Int) (i2 : Int) : M Int :=
  cond ((decide (7 < (IntKind.u64.wrap i2))))
    (M.pure 0)
    (M.need ((0 : Int) ≤ ((IntKind.u64.wrap (8 * (IntKind.u64.wrap i2))))) <|
    M.pure ((IntKind.u8.wrap ((Int.fdiv v1 (2 ^ (min (Int.toNat ((IntKind.u64.wrap (8 * (IntKind.u64.wrap i2))))) 64)))))))

def num_Append_l0 (v2 : Int) : Int × List Int → M (M.Step (Int × List Int) (List Int)) := fun ⟨i19, v20⟩ =>
  cond (decide (0 ≤ i19))
    (M.bind (M.det (shift_Byte v2 i19)) fun v22 =>
    M.need ((List.length v20 + List.length ([v22])) * 1 ≤ 140737488355328) <|
    M.pure (.next (((IntKind.i64.wrap (i19 - 1)), (v20 ++ [v22])))))
    (M.pure (.done v20))
/-- epitaph/num.Append -/
def num_Append (b1 : List Int) (v2 : Int) : M (List Int) :=
  M.bind (M.det (shift_Len v2)) fun v3 =>
  M.need ((0 : Int) ≤ ((IntKind.i64.wrap (((IntKind.i64.wrap ((List.length b1 : Int) + v3))) + 1))) ∧ ((IntKind.i64.wrap (((IntKind.i64.wrap ((List.length b1 : Int) + v3))) + 1))) * 1 ≤ 140737488355328) <|
  M.need ((List.length ([] : List Int) + List.length b1) * 1 ≤ 140737488355328) <|
  M.need ((List.length (([] : List Int) ++ b1) + List.length ([(IntKind.u8.wrap v3)])) * 1 ≤ 140737488355328) <|
  M.bind (M.loop (num_Append_l0 v2) (((IntKind.i64.wrap (v3 - 1)), ((([] : List Int) ++ b1) ++ [(IntKind.u8.wrap v3)])))) (fun v8 =>
  M.pure v8)

/-- (*epitaph/pack.Writer).put -/
def pack_Writer_put_o (b1 : List Int) (row2 : List Int) : M (List Int) :=
  M.need ((List.length row2 + List.length b1) * 1 ≤ 140737488355328) <|
  M.pure (row2 ++ b1)

/-- (*epitaph/pack.Writer).Num -/
def pack_Writer_Num_o (v1 : Int) (row2 : List Int) : M (List Int) :=
  M.bind (M.det (num_Append ([] : List Int) v1)) fun v3 =>
  M.bind (M.det (pack_Writer_put_o v3 row2)) fun y5 =>
  M.pure y5

def dcode_PutCtx_o_l0 (x79 : TPart) : Int × List Int → M (M.Step (Int × List Int) (List Int)) := fun ⟨v101, v102⟩ =>
  cond ((decide (v101 < (List.length x79.runs : Int))))
    (M.bind (M.idx x79.runs v101) fun x104 =>
    M.bind (M.det (pack_Writer_Num_o x104.lo v102)) fun y106 =>
    M.bind (M.det (pack_Writer_Num_o x104.hi y106)) fun y108 =>
    M.pure (.next (((IntKind.i64.wrap (v101 + 1)), y108))))
    (M.pure (.done v102))
def dcode_PutCtx_o_l1 (v3 : List TPart) : Int × List Int → M (M.Step (Int × List Int) (List Int)) := fun ⟨v75, v76⟩ =>
  cond ((decide (v75 < ((List.length v3) : Int))))
    (M.bind (M.bind (M.idx v3 v75) fun x79 =>
    M.bind (M.det (pack_Writer_Num_o (IntKind.u64.wrap x79.dev) v76)) fun y81 =>
    M.bind (M.det (pack_Writer_Num_o (IntKind.u64.wrap (List.length x79.runs : Int)) y81)) fun y83 =>
    M.loop (dcode_PutCtx_o_l0 x79) (0, y83)) (fun v78 =>
    M.pure (.next (((IntKind.i64.wrap (v75 + 1)), v78)))))
    (M.pure (.done v76))
/-- epitaph/dcode.PutCtx -/
def dcode_PutCtx_o (c1 : List TPart) (row2 : List Int) : M (List Int) :=
  M.bind (M.det (ctx_Norm c1)) fun v3 =>
  M.bind (M.det (pack_Writer_Num_o ((IntKind.u64.wrap ((List.length v3) : Int))) row2)) fun y5 =>
  M.loop (dcode_PutCtx_o_l1 v3) (0, y5)

/-- (*epitaph/pack.Writer).Bytes -/
def pack_Writer_Bytes_o (row1 : List Int) : M (List Int × List Int) :=
  M.need (List.length row1 * 1 ≤ 140737488355328) <|
  M.pure (row1, row1)

/-- epitaph/dcode.Encode -/
def dcode_Encode (c1 : List TPart) : M (List Int) :=
  M.bind (M.det (dcode_PutCtx_o c1 ([] : List Int))) fun y2 =>
  M.bind (M.det (pack_Writer_Bytes_o y2)) fun y4 =>
  M.pure y4.1

/-- epitaph/epitaphlaw15.equal -/
def l15_equal (a1 : List Int) (b2 : List Int) : M Bool :=
  M.pure ((decide ((strL a1) = (strL b2))))

/-- epitaph/epitaphlaw15.works -/
def l15_works  : M Bool :=
  M.bind (M.det (dcode_Encode ([(⟨1, [(⟨1, 2⟩ : TRun)]⟩ : TPart)]))) fun v1 =>
  M.bind (M.det (l15_equal v1 ([1, 1, 1, 1, 1, 1, 1, 1, 1, 2]))) fun v3 =>
  M.pure v3

/-- epitaph/dot.Good -/
def dot_Good (d1 : TDot) : M Bool :=
  M.bind (cond (decide (0 < d1.dev))
    (cond (decide (0 < d1.n))
      (M.pure (decide (d1.n ≤ 281474976710655)))
      (M.pure false))
    (M.pure false)) (fun v2 =>
  M.pure v2)

def num_Read_l0 (x7 : Int) (at2 : Int) (b1 : List Int) : Int × Int → M (M.Step (Int × Int) Int) := fun ⟨v28, v29⟩ =>
  cond ((decide (v29 < ((List.length ((List.drop (Int.toNat 0) (List.take (Int.toNat (IntKind.i64.wrap x7)) ((List.drop (Int.toNat (IntKind.i64.wrap (at2 + 1))) (List.take (Int.toNat (List.length b1 : Int)) b1)))))) : Int)))))
    (M.bind (M.idx ((List.drop (Int.toNat 0) (List.take (Int.toNat (IntKind.i64.wrap x7)) ((List.drop (Int.toNat (IntKind.i64.wrap (at2 + 1))) (List.take (Int.toNat (List.length b1 : Int)) b1)))))) v29) fun x31 =>
    M.pure (.next (((bOr .u64 (IntKind.u64.wrap (v28 * 2 ^ 8)) (IntKind.u64.wrap x31)), (IntKind.i64.wrap (v29 + 1))))))
    (M.pure (.done v28))
/-- epitaph/num.Read -/
def num_Read (b1 : List Int) (at2 : Int) : M (Int × Int × Int) :=
  M.bind (cond (decide (at2 < 0))
    (M.pure true)
    (M.pure ((decide ((List.length b1 : Int) < at2))))) (fun v3 =>
  cond v3
    (M.pure (0, 0, 1))
    (cond ((decide (at2 = (List.length b1 : Int))))
      (M.pure (0, 0, 2))
      (M.bind (M.idx b1 at2) fun x7 =>
      M.need ((0 : Int) ≤ (IntKind.i64.wrap (at2 + 1)) ∧ ((IntKind.i64.wrap (at2 + 1)) : Int) ≤ (List.length b1 : Int) ∧ (List.length b1 : Int) ≤ (List.length b1 : Int)) <|
      M.bind (cond ((decide (8 < (IntKind.i64.wrap x7))))
        (M.pure true)
        (cond ((decide (0 < (IntKind.i64.wrap x7))))
          (cond ((decide (0 < ((List.length ((List.drop (Int.toNat (IntKind.i64.wrap (at2 + 1))) (List.take (Int.toNat (List.length b1 : Int)) b1))) : Int)))))
            (M.bind (M.idx ((List.drop (Int.toNat (IntKind.i64.wrap (at2 + 1))) (List.take (Int.toNat (List.length b1 : Int)) b1))) 0) fun x14 =>
            M.pure (decide (x14 = 0)))
            (M.pure false))
          (M.pure false))) (fun v10 =>
      cond v10
        (M.pure (0, 0, 4))
        (cond ((decide (((List.length ((List.drop (Int.toNat (IntKind.i64.wrap (at2 + 1))) (List.take (Int.toNat (List.length b1 : Int)) b1))) : Int)) < (IntKind.i64.wrap x7))))
          (M.pure (0, 0, 2))
          (M.need ((0 : Int) ≤ 0 ∧ (0 : Int) ≤ (IntKind.i64.wrap x7) ∧ (IntKind.i64.wrap x7) ≤ (List.length ((List.drop (Int.toNat (IntKind.i64.wrap (at2 + 1))) (List.take (Int.toNat (List.length b1 : Int)) b1))) : Int)) <|
          M.bind (M.loop (num_Read_l0 x7 at2 b1) (0, 0)) (fun v19 =>
          M.pure ((v19, (IntKind.i64.wrap ((IntKind.i64.wrap (at2 + 1)) + (IntKind.i64.wrap x7))), 0)))))))))

/-- epitaph/epitaphref07.Good -/
def r07_Good (d1 : TDot) : M Bool :=
  M.bind (cond (decide (1 ≤ d1.dev))
    (cond (decide (1 ≤ d1.n))
      (M.pure (decide (d1.n < 281474976710656)))
      (M.pure false))
    (M.pure false)) (fun v2 =>
  M.pure v2)

/-- epitaph/dot.Cmp -/
def dot_Cmp (a1 : TDot) (b2 : TDot) : M Int :=
  M.bind (M.det (cmp_Compare_uint16 a1.dev b2.dev)) fun v3 =>
  cond (!decide (v3 = 0))
    (M.pure v3)
    (M.bind (M.det (cmp_Compare_uint64 a1.n b2.n)) fun v6 =>
    M.pure v6)

/-- epitaph/epitaphref07.Cmp -/
def r07_Cmp (a1 : TDot) (b2 : TDot) : M Int :=
  cond (((decide (a1.dev = b2.dev) && decide (a1.n = b2.n))))
    (M.pure 0)
    (M.bind (cond (decide (a1.dev < b2.dev))
      (M.pure true)
      (cond (decide (a1.dev = b2.dev))
        (M.pure (decide (a1.n < b2.n)))
        (M.pure false))) (fun v4 =>
    cond v4
      (M.pure (-1))
      (M.pure 1)))

def slices_Equal_sl_Run_Run_l0 (s1_1 : List TRun) (s2_2 : List TRun) : Int → M (M.Step Int (M.Ex Unit Bool)) := fun v17 =>
  cond ((decide (v17 < (List.length s1_1 : Int))))
    (M.bind (M.idx s1_1 v17) fun x19 =>
    M.bind (M.idx s2_2 v17) fun x21 =>
    cond ((!(decide (x19.lo = x21.lo) && decide (x19.hi = x21.hi))))
      (M.pure (.done (.ret false)))
      (M.pure (.next (IntKind.i64.wrap (v17 + 1)))))
    (M.pure (.done (.brk ())))
/-- slices.Equal[[]epitaph/api.Run,epitaph/api.Run] -/
def slices_Equal_sl_Run_Run (s1_1 : List TRun) (s2_2 : List TRun) : M Bool :=
  cond ((!decide ((List.length s1_1 : Int) = (List.length s2_2 : Int))))
    (M.pure false)
    (M.bind (M.loop (slices_Equal_sl_Run_Run_l0 s1_1 s2_2) 0) (M.exk (fun _ =>
    M.pure true)))

/-- epitaph/ctx.eq$1 -/
def ctx_eq_c1 (x1 : TPart) (y2 : TPart) : M Bool :=
  M.bind (cond (decide (x1.dev = y2.dev))
    (M.bind (M.det (slices_Equal_sl_Run_Run x1.runs y2.runs)) fun v5 =>
    M.pure v5)
    (M.pure false)) (fun v3 =>
  M.pure v3)

def slices_EqualFunc_Ctx_Ctx_Part_Part_ctx_eq_c1_l0 (s1_1 : List TPart) (s2_2 : List TPart) : Int → M (M.Step Int (M.Ex Unit Bool)) := fun v21 =>
  cond ((decide (v21 < (List.length s1_1 : Int))))
    (M.bind (M.idx s1_1 v21) fun x23 =>
    M.bind (M.idx s2_2 v21) fun x25 =>
    M.bind (M.det (ctx_eq_c1 x23 x25)) fun v27 =>
    cond (!v27)
      (M.pure (.done (.ret false)))
      (M.pure (.next (IntKind.i64.wrap (v21 + 1)))))
    (M.pure (.done (.brk ())))
/-- slices.EqualFunc[epitaph/api.Ctx,epitaph/api.Ctx,epitaph/api.Part,epitaph/api.Part] -/
def slices_EqualFunc_Ctx_Ctx_Part_Part_ctx_eq_c1 (s1_1 : List TPart) (s2_2 : List TPart) : M Bool :=
  cond ((!decide ((List.length s1_1 : Int) = (List.length s2_2 : Int))))
    (M.pure false)
    (M.bind (M.loop (slices_EqualFunc_Ctx_Ctx_Part_Part_ctx_eq_c1_l0 s1_1 s2_2) 0) (M.exk (fun _ =>
    M.pure true)))

/-- epitaph/ctx.eq -/
def ctx_eq (a1 : List TPart) (b2 : List TPart) : M Bool :=
  M.bind (M.det (slices_EqualFunc_Ctx_Ctx_Part_Part_ctx_eq_c1 a1 b2)) fun v3 =>
  M.pure v3

/-- epitaph/ctx.Good -/
def ctx_Good (c1 : List TPart) : M Bool :=
  M.bind (M.det (ctx_Norm c1)) fun v2 =>
  M.bind (M.det (ctx_eq c1 v2)) fun v4 =>
  M.pure v4

/-- epitaph/epitaphref06.may -/
def r06_may (x1 : TRun) : M Bool :=
  M.bind (cond (decide (1 ≤ x1.lo))
    (cond (decide (x1.lo ≤ x1.hi))
      (M.pure (decide (x1.hi ≤ 281474976710655)))
      (M.pure false))
    (M.pure false)) (fun v2 =>
  M.pure v2)

def r06_Has_l0 (l1 : List TRun) (n2 : Int) : Int → M (M.Step Int (M.Ex Unit Bool)) := fun i30 =>
  cond ((decide (i30 < (List.length l1 : Int))))
    (M.bind (M.bind (M.idx l1 i30) fun x33 =>
    M.bind (M.det (r06_may x33)) fun v35 =>
    cond v35
      (M.bind (M.idx l1 i30) fun x38 =>
      cond (decide (x38.lo ≤ n2))
        (M.bind (M.idx l1 i30) fun x41 =>
        M.pure (decide (n2 ≤ x41.hi)))
        (M.pure false))
      (M.pure false)) (fun v32 =>
    cond v32
      (M.pure (.done (.ret true)))
      (M.pure (.next (IntKind.i64.wrap (i30 + 1))))))
    (M.pure (.done (.brk ())))
/-- epitaph/epitaphref06.Has -/
def r06_Has (l1 : List TRun) (n2 : Int) : M Bool :=
  M.bind (M.loop (r06_Has_l0 l1 n2) 0) (M.exk (fun _ =>
  M.pure false))

def r06_put_l0 (l1 : List Int) (n2 : Int) : Bool × Int × List Int → M (M.Step (Bool × Int × List Int) (Bool × List Int)) := fun ⟨done43, i44, out45⟩ =>
  cond ((decide (i44 < (List.length l1 : Int))))
    (M.bind (M.bind (cond (!done43)
      (M.bind (M.idx l1 i44) fun x51 =>
      M.pure (decide (n2 ≤ x51)))
      (M.pure false)) (fun v49 =>
    M.bind (cond v49
      (M.need ((List.length out45 + List.length ([n2])) * 8 ≤ 140737488355328) <|
      M.pure (true, (out45 ++ [n2])))
      (M.pure (done43, out45))) (fun ⟨done53, out54⟩ =>
    M.bind (M.idx l1 i44) fun x57 =>
    cond (!decide (x57 = n2))
      (M.bind (M.idx l1 i44) fun x60 =>
      M.need ((List.length out54 + List.length ([x60])) * 8 ≤ 140737488355328) <|
      M.pure (done53, (out54 ++ [x60])))
      (M.pure (done53, out54))))) (fun ⟨done47, out48⟩ =>
    M.pure (.next ((done47, (IntKind.i64.wrap (i44 + 1)), out48)))))
    (M.pure (.done (done43, out45)))
/-- epitaph/epitaphref06.put -/
def r06_put (l1 : List Int) (n2 : Int) : M (List Int) :=
  M.bind (M.loop (r06_put_l0 l1 n2) (false, 0, ([] : List Int))) (fun ⟨done3, out4⟩ =>
  M.bind (cond (!done3)
    (M.need ((List.length out4 + List.length ([n2])) * 8 ≤ 140737488355328) <|
    M.pure (out4 ++ [n2]))
    (M.pure out4)) (fun out63 =>
  M.pure out63))

def r06_points_l0 (a1 : List TRun) (b2 : List TRun) : List Int × Int → M (M.Step (List Int × Int) (List Int)) := fun ⟨out38, i39⟩ =>
  cond ((decide (i39 < (((List.length ((([] : List TRun) ++ a1) ++ b2)) : Int)))))
    (M.bind (M.bind (M.idx (((([] : List TRun) ++ a1) ++ b2)) i39) fun x42 =>
    M.bind (M.det (r06_may x42)) fun v44 =>
    cond v44
      (M.bind (M.idx (((([] : List TRun) ++ a1) ++ b2)) i39) fun x47 =>
      M.bind (M.det (r06_put out38 x47.lo)) fun v49 =>
      M.bind (M.idx (((([] : List TRun) ++ a1) ++ b2)) i39) fun x51 =>
      M.bind (M.det (r06_put v49 (IntKind.u64.wrap (x51.hi + 1)))) fun v53 =>
      M.pure v53)
      (M.pure out38)) (fun out41 =>
    M.pure (.next ((out41, (IntKind.i64.wrap (i39 + 1)))))))
    (M.pure (.done out38))
/-- epitaph/epitaphref06.points -/
def r06_points (a1 : List TRun) (b2 : List TRun) : M (List Int) :=
  M.need ((List.length ([] : List TRun) + List.length a1) * 16 ≤ 140737488355328) <|
  M.need ((List.length (([] : List TRun) ++ a1) + List.length b2) * 16 ≤ 140737488355328) <|
  M.bind (M.loop (r06_points_l0 a1 b2) (([] : List Int), 0)) (fun out5 =>
  M.pure out5)

def r06_set_l0 (v4 : List Int) (a1 : List TRun) (b2 : List TRun) (how3 : Int) : Int × List TRun → M (M.Step (Int × List TRun) (List TRun)) := fun ⟨i85, out86⟩ =>
  cond ((decide ((IntKind.i64.wrap (i85 + 1)) < (List.length v4 : Int))))
    (M.bind (M.bind (M.idx v4 i85) fun x89 =>
    M.bind (M.det (r06_Has a1 x89)) fun v91 =>
    M.bind (M.idx v4 i85) fun x93 =>
    M.bind (M.det (r06_Has b2 x93)) fun v95 =>
    M.bind (cond v91
      (M.pure true)
      (M.pure v95)) (fun in97 =>
    M.bind (cond (decide (how3 = 1))
      (M.bind (cond v91
        (M.pure v95)
        (M.pure false)) (fun in101 =>
      M.pure in101))
      (M.pure in97)) (fun in99 =>
    M.bind (cond (decide (how3 = 2))
      (M.bind (cond v91
        (M.pure (!v95))
        (M.pure false)) (fun in105 =>
      M.pure in105))
      (M.pure in99)) (fun in103 =>
    M.bind (cond in103
      (cond ((decide (0 ≤ ((IntKind.i64.wrap (((List.length out86) : Int) - 1))))))
        (M.bind (M.idx out86 ((IntKind.i64.wrap (((List.length out86) : Int) - 1)))) fun x110 =>
        M.bind (M.idx v4 i85) fun x112 =>
        M.pure ((decide ((IntKind.u64.wrap (x110.hi + 1)) = x112))))
        (M.pure false))
      (M.pure false)) (fun v107 =>
    cond v107
      (M.bind (M.idx v4 (IntKind.i64.wrap (i85 + 1))) fun x115 =>
      M.bind (M.idx out86 ((IntKind.i64.wrap (((List.length out86) : Int) - 1)))) fun x117 =>
      M.pure ((List.set out86 ((Int.toNat ((IntKind.i64.wrap (((List.length out86) : Int) - 1))))) ((⟨x117.lo, (IntKind.u64.wrap (x115 - 1))⟩ : TRun)))))
      (cond in103
        (M.bind (M.idx v4 i85) fun x120 =>
        M.bind (M.idx v4 (IntKind.i64.wrap (i85 + 1))) fun x122 =>
        M.need ((List.length out86 + List.length ([(⟨x120, (IntKind.u64.wrap (x122 - 1))⟩ : TRun)])) * 16 ≤ 140737488355328) <|
        M.pure ((out86 ++ [(⟨x120, (IntKind.u64.wrap (x122 - 1))⟩ : TRun)])))
        (M.pure out86))))))) (fun out88 =>
    M.pure (.next (((IntKind.i64.wrap (i85 + 1)), out88)))))
    (M.pure (.done out86))
/-- epitaph/epitaphref06.set -/
def r06_set (a1 : List TRun) (b2 : List TRun) (how3 : Int) : M (List TRun) :=
  M.bind (M.det (r06_points a1 b2)) fun v4 =>
  M.bind (M.loop (r06_set_l0 v4 a1 b2 how3) (0, ([] : List TRun))) (fun out6 =>
  M.pure out6)

/-- epitaph/epitaphref06.Join -/
def r06_Join (a1 : List TRun) (b2 : List TRun) : M (List TRun) :=
  M.bind (M.det (r06_set a1 b2 0)) fun v3 =>
  M.pure v3

def r09_Runs_l0 (c1 : List TPart) (dev2 : Int) : List TRun × Int → M (M.Step (List TRun × Int) (List TRun)) := fun ⟨out28, i29⟩ =>
  cond ((decide (i29 < (List.length c1 : Int))))
    (M.bind (M.bind (M.bind (M.idx c1 i29) fun x33 =>
    cond (decide (x33.dev = dev2))
      (M.pure (!decide (dev2 = 0)))
      (M.pure false)) (fun v32 =>
    cond v32
      (M.bind (M.idx c1 i29) fun x37 =>
      M.bind (M.det (r06_Join out28 x37.runs)) fun v39 =>
      M.pure v39)
      (M.pure out28))) (fun out31 =>
    M.pure (.next ((out31, (IntKind.i64.wrap (i29 + 1)))))))
    (M.pure (.done out28))
/-- epitaph/epitaphref09.Runs -/
def r09_Runs (c1 : List TPart) (dev2 : Int) : M (List TRun) :=
  M.bind (M.loop (r09_Runs_l0 c1 dev2) (([] : List TRun), 0)) (fun out3 =>
  M.pure out3)

def r07_Put_l0 (l1 : List TDot) (d2 : TDot) : Int × List TDot → M (M.Step (Int × List TDot) (List TDot)) := fun ⟨i26, out27⟩ =>
  cond ((decide (i26 < (List.length l1 : Int))))
    (M.bind (M.bind (M.idx l1 i26) fun x30 =>
    M.bind (M.det (r07_Cmp x30 d2)) fun v32 =>
    cond (decide (v32 < 0))
      (M.bind (M.idx l1 i26) fun x35 =>
      M.need ((List.length out27 + List.length ([x35])) * 16 ≤ 140737488355328) <|
      M.pure (out27 ++ [x35]))
      (M.pure out27)) (fun out29 =>
    M.pure (.next (((IntKind.i64.wrap (i26 + 1)), out29)))))
    (M.pure (.done out27))
def r07_Put_l1 (l1 : List TDot) (d2 : TDot) : Int × List TDot → M (M.Step (Int × List TDot) (List TDot)) := fun ⟨i62, out63⟩ =>
  cond ((decide (i62 < (List.length l1 : Int))))
    (M.bind (M.bind (M.idx l1 i62) fun x66 =>
    M.bind (M.det (r07_Cmp x66 d2)) fun v68 =>
    cond (decide (0 < v68))
      (M.bind (M.idx l1 i62) fun x71 =>
      M.need ((List.length out63 + List.length ([x71])) * 16 ≤ 140737488355328) <|
      M.pure (out63 ++ [x71]))
      (M.pure out63)) (fun out65 =>
    M.pure (.next (((IntKind.i64.wrap (i62 + 1)), out65)))))
    (M.pure (.done out63))
/-- epitaph/epitaphref07.Put -/
def r07_Put (l1 : List TDot) (d2 : TDot) : M (List TDot) :=
  M.bind (M.loop (r07_Put_l0 l1 d2) (0, ([] : List TDot))) (fun out3 =>
  M.need ((List.length out3 + List.length ([d2])) * 16 ≤ 140737488355328) <|
  M.bind (M.loop (r07_Put_l1 l1 d2) (0, (out3 ++ [d2]))) (fun out39 =>
  M.pure out39))

def r09_devs_l0 (a1 : List TPart) : List TDot × Int → M (M.Step (List TDot × Int) (List TDot)) := fun ⟨out16, i17⟩ =>
  cond ((decide (i17 < (List.length a1 : Int))))
    (M.bind (M.idx a1 i17) fun x19 =>
    M.bind (M.det (r07_Put out16 (⟨x19.dev, 1⟩ : TDot))) fun v21 =>
    M.pure (.next ((v21, (IntKind.i64.wrap (i17 + 1))))))
    (M.pure (.done out16))
def r09_devs_l1 (b2 : List TPart) : List TDot × Int → M (M.Step (List TDot × Int) (List TDot)) := fun ⟨out36, i37⟩ =>
  cond ((decide (i37 < (List.length b2 : Int))))
    (M.bind (M.idx b2 i37) fun x39 =>
    M.bind (M.det (r07_Put out36 (⟨x39.dev, 1⟩ : TDot))) fun v41 =>
    M.pure (.next ((v41, (IntKind.i64.wrap (i37 + 1))))))
    (M.pure (.done out36))
/-- epitaph/epitaphref09.devs -/
def r09_devs (a1 : List TPart) (b2 : List TPart) : M (List TDot) :=
  M.bind (M.loop (r09_devs_l0 a1) (([] : List TDot), 0)) (fun out3 =>
  M.bind (M.loop (r09_devs_l1 b2) (out3, 0)) (fun out23 =>
  M.pure out23))

/-- epitaph/epitaphref06.Meet -/
def r06_Meet (a1 : List TRun) (b2 : List TRun) : M (List TRun) :=
  M.bind (M.det (r06_set a1 b2 1)) fun v3 =>
  M.pure v3

/-- epitaph/epitaphref06.Minus -/
def r06_Minus (a1 : List TRun) (b2 : List TRun) : M (List TRun) :=
  M.bind (M.det (r06_set a1 b2 2)) fun v3 =>
  M.pure v3

def r09_set_l0 (v4 : List TDot) (a1 : List TPart) (b2 : List TPart) (how3 : Int) : Int × List TPart → M (M.Step (Int × List TPart) (List TPart)) := fun ⟨i57, out58⟩ =>
  cond ((decide (i57 < (List.length v4 : Int))))
    (M.bind (M.bind (M.idx v4 i57) fun x61 =>
    M.bind (M.det (r09_Runs a1 x61.dev)) fun v63 =>
    M.bind (M.idx v4 i57) fun x65 =>
    M.bind (M.det (r09_Runs b2 x65.dev)) fun v67 =>
    M.bind (M.det (r06_Join v63 v67)) fun v69 =>
    M.bind (cond (decide (how3 = 1))
      (M.bind (M.det (r06_Meet v63 v67)) fun v73 =>
      M.pure v73)
      (M.pure v69)) (fun z71 =>
    M.bind (cond (decide (how3 = 2))
      (M.bind (M.det (r06_Minus v63 v67)) fun v77 =>
      M.pure v77)
      (M.pure z71)) (fun z75 =>
    cond ((decide (0 < (List.length z75 : Int))))
      (M.bind (M.idx v4 i57) fun x80 =>
      M.need ((List.length out58 + List.length ([(⟨x80.dev, z75⟩ : TPart)])) * 32 ≤ 140737488355328) <|
      M.pure (out58 ++ [(⟨x80.dev, z75⟩ : TPart)]))
      (M.pure out58)))) (fun out60 =>
    M.pure (.next (((IntKind.i64.wrap (i57 + 1)), out60)))))
    (M.pure (.done out58))
/-- epitaph/epitaphref09.set -/
def r09_set (a1 : List TPart) (b2 : List TPart) (how3 : Int) : M (List TPart) :=
  M.bind (M.det (r09_devs a1 b2)) fun v4 =>
  M.bind (M.loop (r09_set_l0 v4 a1 b2 how3) (0, ([] : List TPart))) (fun out6 =>
  M.pure out6)

/-- epitaph/epitaphref09.Norm -/
def r09_Norm (c1 : List TPart) : M (List TPart) :=
  M.bind (M.det (r09_set c1 ([] : List TPart) 0)) fun v2 =>
  M.pure v2

/-- epitaph/pack.New -/
def pack_New_o (b1 : List Int) : M (List Int × Int) :=
  M.need (List.length b1 * 1 ≤ 140737488355328) <|
  M.pure (b1, 0)

/-- (*epitaph/pack.Reader).Err -/
def pack_Reader_Err_o (b_1 : List Int) (bad_2 : Int) : M (Int × List Int × Int) :=
  M.pure (bad_2, b_1, bad_2)

/-- (*epitaph/pack.Reader).Fail -/
def pack_Reader_Fail_o (e1 : Int) (b_2 : List Int) (bad_3 : Int) : M (List Int × Int) :=
  M.bind (cond (decide (bad_3 = 0))
    (M.pure (!decide (e1 = 0)))
    (M.pure false)) (fun v4 =>
  cond v4
    (M.pure (([] : List Int), e1))
    (M.pure (b_2, bad_3)))

/-- (*epitaph/pack.rest).take -/
def pack_rest_take_o (n1 : Int) (b_2 : List Int) (bad_3 : Int) : M (List Int × List Int × Int) :=
  M.need ((0 : Int) ≤ 0 ∧ (0 : Int) ≤ n1 ∧ n1 ≤ (List.length b_2 : Int)) <|
  M.need ((0 : Int) ≤ n1 ∧ (n1 : Int) ≤ (List.length b_2 : Int) ∧ (List.length b_2 : Int) ≤ (List.length b_2 : Int)) <|
  M.pure (((List.drop (Int.toNat 0) (List.take (Int.toNat n1) b_2)), (List.drop (Int.toNat n1) (List.take (Int.toNat (List.length b_2 : Int)) b_2)), bad_3))

/-- (*epitaph/pack.Reader).Num -/
def pack_Reader_Num_o (b_1 : List Int) (bad_2 : Int) : M (Int × List Int × Int) :=
  M.bind (M.det (pack_Reader_Err_o b_1 bad_2)) fun y3 =>
  cond (!decide (y3.1 = 0))
    (M.pure (0, y3.2.1, y3.2.2))
    (M.bind (M.det (num_Read y3.2.1 0)) fun v6 =>
    cond (!decide (v6.2.2 = 0))
      (M.bind (M.det (pack_Reader_Fail_o v6.2.2 y3.2.1 y3.2.2)) fun y9 =>
      M.pure (0, y9.1, y9.2))
      (M.bind (M.det (pack_rest_take_o v6.2.1 y3.2.1 y3.2.2)) fun y11 =>
      M.pure (v6.1, y11.2.1, y11.2.2)))

/-- (*epitaph/pack.Reader).Upto -/
def pack_Reader_Upto_o (most1 : Int) (b_2 : List Int) (bad_3 : Int) : M (Int × List Int × Int) :=
  M.bind (M.det (pack_Reader_Num_o b_2 bad_3)) fun y4 =>
  cond (decide (most1 < y4.1))
    (M.bind (M.det (pack_Reader_Fail_o 4 y4.2.1 y4.2.2)) fun y7 =>
    M.pure (0, y7.1, y7.2))
    (M.pure (y4.1, y4.2.1, y4.2.2))

def dcode_part_o_l0 (y5 : Int × List Int × Int) : Int × List TRun × List Int × Int → M (M.Step (Int × List TRun × List Int × Int) (List TRun × List Int × Int)) := fun ⟨v32, v33, v34, v35⟩ =>
  cond (decide (v32 < y5.1))
    (M.bind (M.det (pack_Reader_Num_o v34 v35)) fun y37 =>
    M.bind (M.det (pack_Reader_Num_o y37.2.1 y37.2.2)) fun y39 =>
    M.need ((List.length v33 + List.length ([(⟨y37.1, y39.1⟩ : TRun)])) * 16 ≤ 140737488355328) <|
    M.bind (M.det (pack_Reader_Err_o y39.2.1 y39.2.2)) fun y42 =>
    cond (!decide (y42.1 = 0))
      (M.pure (.done ((((v33 ++ [(⟨y37.1, y39.1⟩ : TRun)]), y42.2.1, y42.2.2)))))
      (M.pure (.next (((IntKind.u64.wrap (v32 + 1)), (v33 ++ [(⟨y37.1, y39.1⟩ : TRun)]), y42.2.1, y42.2.2)))))
    (M.pure (.done (v33, v34, v35)))
/-- epitaph/dcode.part -/
def dcode_part_o (b_1 : List Int) (bad_2 : Int) : M (TPart × List Int × Int) :=
  M.bind (M.det (pack_Reader_Upto_o 65535 b_1 bad_2)) fun y3 =>
  M.bind (M.det (pack_Reader_Num_o y3.2.1 y3.2.2)) fun y5 =>
  M.bind (M.loop (dcode_part_o_l0 y5) (0, ([] : List TRun), y5.2.1, y5.2.2)) (fun ⟨v7, v8, v9⟩ =>
  M.pure (((⟨(IntKind.u16.wrap y3.1), v7⟩ : TPart), v8, v9)))

def dcode_Ctx_o_l0 (y3 : Int × List Int × Int) : Int × List TPart × List Int × Int → M (M.Step (Int × List TPart × List Int × Int) (M.Ex (List TPart × List Int × Int) (List TPart × List Int × Int))) := fun ⟨v26, c27, v28, v29⟩ =>
  cond (decide (v26 < y3.1))
    (M.bind (M.det (dcode_part_o v28 v29)) fun y31 =>
    M.need ((List.length c27 + List.length ([y31.1])) * 32 ≤ 140737488355328) <|
    M.bind (M.det (pack_Reader_Err_o y31.2.1 y31.2.2)) fun y34 =>
    cond (!decide (y34.1 = 0))
      (M.pure (.done ((.ret (([] : List TPart), y34.2.1, y34.2.2)))))
      (M.pure (.next (((IntKind.u64.wrap (v26 + 1)), (c27 ++ [y31.1]), y34.2.1, y34.2.2)))))
    (M.pure (.done (.brk (c27, v28, v29))))
/-- epitaph/dcode.Ctx -/
def dcode_Ctx_o (b_1 : List Int) (bad_2 : Int) : M (List TPart × List Int × Int) :=
  M.bind (M.det (pack_Reader_Num_o b_1 bad_2)) fun y3 =>
  M.bind (M.loop (dcode_Ctx_o_l0 y3) (0, ([] : List TPart), y3.2.1, y3.2.2)) (M.exk (fun ⟨c5, v6, v7⟩ =>
  M.bind (M.det (ctx_Good c5)) fun v37 =>
  cond (!v37)
    (M.bind (M.det (pack_Reader_Fail_o 4 v6 v7)) fun y40 =>
    M.pure (([] : List TPart), y40.1, y40.2))
    (M.pure (c5, v6, v7))))

/-- (*epitaph/pack.rest).Left -/
def pack_rest_Left_o (b_1 : List Int) (bad_2 : Int) : M (Int × List Int × Int) :=
  M.pure ((List.length b_1 : Int), b_1, bad_2)

/-- (*epitaph/pack.Reader).Left -/
def pack_Reader_Left_o (b_1 : List Int) (bad_2 : Int) : M (Int × List Int × Int) :=
  M.bind (M.det (pack_rest_Left_o b_1 bad_2)) fun y3 =>
  M.pure (y3.1, y3.2.1, y3.2.2)

/-- (*epitaph/pack.Reader).End -/
def pack_Reader_End_o (b_1 : List Int) (bad_2 : Int) : M (Int × List Int × Int) :=
  M.bind (M.det (pack_Reader_Left_o b_1 bad_2)) fun y3 =>
  M.bind (cond (decide (0 < y3.1))
    (M.bind (M.det (pack_Reader_Fail_o 4 y3.2.1 y3.2.2)) fun y8 =>
    M.pure (y8.1, y8.2))
    (M.pure (y3.2.1, y3.2.2))) (fun ⟨v5, v6⟩ =>
  M.bind (M.det (pack_Reader_Err_o v5 v6)) fun y10 =>
  M.pure (y10.1, y10.2.1, y10.2.2))

/-- epitaph/dcode.Decode -/
def dcode_Decode (b1 : List Int) : M (List TPart × Int) :=
  M.bind (M.det (pack_New_o b1)) fun y2 =>
  M.bind (M.det (dcode_Ctx_o y2.1 y2.2)) fun y4 =>
  M.bind (M.det (pack_Reader_End_o y4.2.1 y4.2.2)) fun y6 =>
  cond (!decide (y6.1 = 0))
    (M.pure (([] : List TPart), y6.1))
    (M.pure (y4.1, 0))

/-- epitaph/dcode.Dot -/
def dcode_Dot_o (b_1 : List Int) (bad_2 : Int) : M (TDot × List Int × Int) :=
  M.bind (M.det (pack_Reader_Upto_o 65535 b_1 bad_2)) fun y3 =>
  M.bind (M.det (pack_Reader_Num_o y3.2.1 y3.2.2)) fun y5 =>
  M.bind (M.det (dot_Good (⟨(IntKind.u16.wrap y3.1), y5.1⟩ : TDot))) fun v7 =>
  M.bind (cond (!v7)
    (M.bind (M.det (pack_Reader_Fail_o 4 y5.2.1 y5.2.2)) fun y12 =>
    M.pure (y12.1, y12.2))
    (M.pure (y5.2.1, y5.2.2))) (fun ⟨v9, v10⟩ =>
  M.bind (M.det (pack_Reader_Err_o v9 v10)) fun y14 =>
  cond (!decide (y14.1 = 0))
    (M.pure ((⟨0, 0⟩ : TDot), y14.2.1, y14.2.2))
    (M.pure (((⟨(IntKind.u16.wrap y3.1), y5.1⟩ : TDot), y14.2.1, y14.2.2))))

def dcode_Dots_o_l0 (y4 : Int × List Int × Int) : Int × List TDot × List Int × Int → M (M.Step (Int × List TDot × List Int × Int) (M.Ex (List TDot × List Int × Int) (List TDot × List Int × Int))) := fun ⟨v52, out53, v54, v55⟩ =>
  cond (decide (v52 < y4.1))
    (M.bind (M.det (dcode_Dot_o v54 v55)) fun y57 =>
    M.bind (cond ((decide (0 ≤ ((IntKind.i64.wrap (((List.length out53) : Int) - 1))))))
      (M.bind (M.idx out53 ((IntKind.i64.wrap (((List.length out53) : Int) - 1)))) fun x61 =>
      M.bind (M.det (dot_Cmp x61 y57.1)) fun v63 =>
      M.pure (decide (0 ≤ v63)))
      (M.pure false)) (fun v59 =>
    M.bind (cond v59
      (M.bind (M.det (pack_Reader_Fail_o 4 y57.2.1 y57.2.2)) fun y68 =>
      M.pure (y68.1, y68.2))
      (M.pure (y57.2.1, y57.2.2))) (fun ⟨v65, v66⟩ =>
    M.bind (M.det (pack_Reader_Err_o v65 v66)) fun y70 =>
    cond (!decide (y70.1 = 0))
      (M.pure (.done ((.ret (([] : List TDot), y70.2.1, y70.2.2)))))
      (M.need ((List.length out53 + List.length ([y57.1])) * 16 ≤ 140737488355328) <|
      M.pure (.next (((IntKind.u64.wrap (v52 + 1)), (out53 ++ [y57.1]), y70.2.1, y70.2.2)))))))
    (M.pure (.done (.brk (out53, v54, v55))))
/-- epitaph/dcode.Dots -/
def dcode_Dots_o (most1 : Int) (b_2 : List Int) (bad_3 : Int) : M (List TDot × List Int × Int) :=
  M.bind (M.det (pack_Reader_Num_o b_2 bad_3)) fun y4 =>
  cond ((decide ((IntKind.u64.wrap (max most1 0)) < y4.1)))
    (M.bind (M.det (pack_Reader_Fail_o 3 y4.2.1 y4.2.2)) fun y7 =>
    M.pure (([] : List TDot), y7.1, y7.2))
    (M.bind (M.loop (dcode_Dots_o_l0 y4) (0, ([] : List TDot), y4.2.1, y4.2.2)) (M.exk (fun ⟨out9, v10, v11⟩ =>
    M.pure (out9, v10, v11))))

def r09_Few_l0 (c1 : List TPart) : Int → M (M.Step Int (M.Ex Unit Bool)) := fun i12 =>
  cond ((decide (i12 < (List.length c1 : Int))))
    (M.bind (M.idx c1 i12) fun x14 =>
    cond ((decide (30 < (List.length x14.runs : Int))))
      (M.pure (.done (.ret false)))
      (M.pure (.next (IntKind.i64.wrap (i12 + 1)))))
    (M.pure (.done (.brk ())))
/-- epitaph/epitaphref09.Few -/
def r09_Few (c1 : List TPart) : M Bool :=
  cond ((decide (30 < (List.length c1 : Int))))
    (M.pure false)
    (M.bind (M.loop (r09_Few_l0 c1) 0) (M.exk (fun _ =>
    M.pure true)))

def r07_Rising_l0 (l1 : List TDot) : Int → M (M.Step Int (M.Ex Unit Bool)) := fun i19 =>
  cond ((decide (i19 < (List.length l1 : Int))))
    (M.bind (M.idx l1 (IntKind.i64.wrap (i19 - 1))) fun x21 =>
    M.bind (M.idx l1 i19) fun x23 =>
    M.bind (M.det (r07_Cmp x21 x23)) fun v25 =>
    cond (decide (0 ≤ v25))
      (M.pure (.done (.ret false)))
      (M.pure (.next (IntKind.i64.wrap (i19 + 1)))))
    (M.pure (.done (.brk ())))
/-- epitaph/epitaphref07.Rising -/
def r07_Rising (l1 : List TDot) : M Bool :=
  M.bind (M.loop (r07_Rising_l0 l1) 1) (M.exk (fun _ =>
  M.pure true))

/-- slices.Clone[[]epitaph/api.Dot,epitaph/api.Dot] -/
def slices_Clone_sl_Dot_Dot (s1 : List TDot) : M (List TDot) :=
  M.bind (M.isNil s1) fun b2 =>
  cond b2
    (M.pure ([] : List TDot))
    (M.need ((List.length ([] : List TDot) + List.length s1) * 16 ≤ 140737488355328) <|
    M.pure (([] : List TDot) ++ s1))

def slices_Compact_sl_Dot_Dot_o_l0 (row1 : List TDot) (k148 : Int) : Int × Int × List TDot → M (M.Step (Int × Int × List TDot) (Int × List TDot)) := fun ⟨k197, k2_198, v199⟩ =>
  cond ((decide (k2_198 < ((((List.length row1 - Int.toNat k148) : Nat) : Int)))))
    (M.bind (M.need ((0 : Int) ≤ k2_198 ∧ k2_198 < (((List.length row1 - Int.toNat k148) : Nat) : Int)) <| M.bind (M.idx v199 ((((Int.toNat k148) + Int.toNat k2_198) : Nat) : Int)) fun x203 =>
    M.need ((0 : Int) ≤ (IntKind.i64.wrap (k2_198 - 1)) ∧ (IntKind.i64.wrap (k2_198 - 1)) < (((List.length row1 - Int.toNat k148) : Nat) : Int)) <| M.bind (M.idx v199 ((((Int.toNat k148) + Int.toNat (IntKind.i64.wrap (k2_198 - 1))) : Nat) : Int)) fun x207 =>
    cond ((!(decide (x203.dev = x207.dev) && decide (x203.n = x207.n))))
      (M.need ((0 : Int) ≤ k2_198 ∧ k2_198 < (((List.length row1 - Int.toNat k148) : Nat) : Int)) <| M.bind (M.idx v199 ((((Int.toNat k148) + Int.toNat k2_198) : Nat) : Int)) fun x212 =>
      M.bind (M.idx v199 k197) fun x216 =>
      M.pure (((IntKind.i64.wrap (k197 + 1)), (List.set v199 (Int.toNat k197) x212))))
      (M.pure (k197, v199))) (fun ⟨k201, v202⟩ =>
    M.pure (.next ((k201, (IntKind.i64.wrap (k2_198 + 1)), v202)))))
    (M.pure (.done (k197, v199)))
def slices_Compact_sl_Dot_Dot_o_l1 (row1 : List TDot) : Int → M (M.Step Int (M.Ex Unit (List TDot))) := fun k148 =>
  cond ((decide (k148 < ((List.length row1) : Int))))
    (M.bind (M.bind (M.idx row1 k148) fun x150 =>
    M.bind (M.idx row1 (IntKind.i64.wrap (k148 - 1))) fun x152 =>
    cond (((decide (x150.dev = x152.dev) && decide (x150.n = x152.n))))
      (M.need ((0 : Int) ≤ k148 ∧ k148 ≤ (List.length row1 : Int)) <|
      M.bind (M.loop (slices_Compact_sl_Dot_Dot_o_l0 row1 k148) (k148, 1, row1)) (fun ⟨k156, v157⟩ =>
      M.need ((0 : Int) ≤ k156 ∧ k156 ≤ (List.length v157 : Int)) <|
      M.need ((Int.toNat k156) + (List.length v157 - Int.toNat k156) ≤ List.length v157) <|
      M.need ((0 : Int) ≤ 0 ∧ (0 : Int) ≤ k156 ∧ k156 ≤ (List.length ((List.take (Int.toNat k156) v157 ++ List.replicate (List.length v157 - Int.toNat k156) (⟨0, 0⟩ : TDot) ++ List.drop ((Int.toNat k156) + (List.length v157 - Int.toNat k156)) v157)) : Int)) <|
      M.pure (.ret ((.done ((.ret (((List.take (Int.toNat k156) ((List.take (Int.toNat k156) v157 ++ List.replicate (List.length v157 - Int.toNat k156) (⟨0, 0⟩ : TDot) ++ List.drop ((Int.toNat k156) + (List.length v157 - Int.toNat k156)) v157))))))))))))
      (M.pure (.brk ()))) (M.exk (fun _ =>
    M.pure (.next (IntKind.i64.wrap (k148 + 1))))))
    (M.pure (.done (.brk ())))
/-- slices.Compact[[]epitaph/api.Dot,epitaph/api.Dot] -/
def slices_Compact_sl_Dot_Dot_o (row1 : List TDot) : M (List TDot) :=
  cond ((decide (((List.length row1) : Int) < 2)))
    (M.pure row1)
    (M.bind (M.loop (slices_Compact_sl_Dot_Dot_o_l1 row1) 1) (M.exk (fun _ =>
    M.pure row1)))

/-- epitaph/dot.Sort -/
def dot_Sort (l1 : List TDot) : M (List TDot) :=
  M.bind (M.det (slices_Clone_sl_Dot_Dot l1)) fun v2 =>
  M.need (List.length v2 < 4611686018427387904) <| M.bind (M.srt ltDot v2) fun s4 =>
  M.bind (M.det (slices_Compact_sl_Dot_Dot_o s4)) fun y8 =>
  M.pure y8

/-- epitaph/dcode.PutDot -/
def dcode_PutDot_o (d1 : TDot) (row2 : List Int) : M (List Int) :=
  M.bind (M.det (pack_Writer_Num_o (IntKind.u64.wrap d1.dev) row2)) fun y3 =>
  M.bind (M.det (pack_Writer_Num_o d1.n y3)) fun y5 =>
  M.pure y5

def dcode_PutDots_o_l0 (l1 : List TDot) : Int × List TDot → M (M.Step (Int × List TDot) (List TDot)) := fun ⟨v22, some23⟩ =>
  cond ((decide (v22 < (List.length l1 : Int))))
    (M.bind (M.bind (M.idx l1 v22) fun x26 =>
    M.bind (M.det (dot_Good x26)) fun v28 =>
    cond v28
      (M.need ((List.length some23 + List.length ([x26])) * 16 ≤ 140737488355328) <|
      M.pure (some23 ++ [x26]))
      (M.pure some23)) (fun some25 =>
    M.pure (.next (((IntKind.i64.wrap (v22 + 1)), some25)))))
    (M.pure (.done some23))
def dcode_PutDots_o_l1 (v32 : List TDot) : Int × List Int → M (M.Step (Int × List Int) (List Int)) := fun ⟨v48, v49⟩ =>
  cond ((decide (v48 < ((List.length v32) : Int))))
    (M.bind (M.idx v32 v48) fun x51 =>
    M.bind (M.det (dcode_PutDot_o x51 v49)) fun y53 =>
    M.pure (.next (((IntKind.i64.wrap (v48 + 1)), y53))))
    (M.pure (.done v49))
/-- epitaph/dcode.PutDots -/
def dcode_PutDots_o (l1 : List TDot) (row2 : List Int) : M (List Int) :=
  M.bind (M.loop (dcode_PutDots_o_l0 l1) (0, ([] : List TDot))) (fun some3 =>
  M.bind (M.det (dot_Sort some3)) fun v32 =>
  M.bind (M.det (pack_Writer_Num_o ((IntKind.u64.wrap ((List.length v32) : Int))) row2)) fun y34 =>
  M.loop (dcode_PutDots_o_l1 v32) (0, y34))

def l15_DcodeBack_l0 (l2 : List TDot) : Int → M (M.Step Int (M.Ex Unit Bool)) := fun i34 =>
  cond ((decide (i34 < (List.length l2 : Int))))
    (M.bind (M.idx l2 i34) fun x36 =>
    M.bind (M.det (r07_Good x36)) fun v38 =>
    cond (!v38)
      (M.bind (M.det (l15_works)) fun v41 =>
      M.pure (.done (.ret v41)))
      (M.pure (.next (IntKind.i64.wrap (i34 + 1)))))
    (M.pure (.done (.brk ())))
/-- epitaph/epitaphlaw15.DcodeBack -/
def l15_DcodeBack (d1 : TDot) (l2 : List TDot) (c3 : List TPart) : M Bool :=
  M.bind (cond ((decide (100 < (List.length l2 : Int))))
    (M.pure true)
    (M.bind (M.det (r09_Few c3)) fun v6 =>
    cond (!v6)
      (M.pure true)
      (M.bind (M.det (r07_Good d1)) fun v9 =>
      cond (!v9)
        (M.pure true)
        (M.bind (M.det (r07_Rising l2)) fun v12 =>
        M.pure (!v12))))) (fun v4 =>
  cond v4
    (M.bind (M.det (l15_works)) fun v15 =>
    M.pure v15)
    (M.bind (M.loop (l15_DcodeBack_l0 l2) 0) (M.exk (fun _ =>
    M.bind (M.det (dcode_PutCtx_o c3 ([] : List Int))) fun y43 =>
    M.bind (M.det (dcode_PutDots_o l2 y43)) fun y45 =>
    M.bind (M.det (dcode_PutDot_o d1 y45)) fun y47 =>
    M.bind (M.det (pack_Writer_Bytes_o y47)) fun y49 =>
    M.bind (M.det (pack_New_o y49.1)) fun y51 =>
    M.bind (M.det (dcode_Ctx_o y51.1 y51.2)) fun y53 =>
    M.bind (M.det (dcode_Dots_o (List.length l2 : Int) y53.2.1 y53.2.2)) fun y55 =>
    M.bind (M.det (dcode_Dot_o y55.2.1 y55.2.2)) fun y57 =>
    M.bind (M.det (dcode_Encode c3)) fun v59 =>
    M.bind (M.det (dcode_Decode v59)) fun v61 =>
    M.bind (M.bind (M.det (r09_Norm c3)) fun v64 =>
    M.bind (M.det (r09_Eq y53.1 v64)) fun v66 =>
    cond v66
      (M.bind (M.det (r07_Same y55.1 l2)) fun v69 =>
      cond v69
        (cond (((decide (y57.1.dev = d1.dev) && decide (y57.1.n = d1.n))))
          (M.bind (M.det (pack_Reader_End_o y57.2.1 y57.2.2)) fun y73 =>
          cond (decide (y73.1 = 0))
            (cond (decide (v61.2 = 0))
              (M.bind (M.det (r09_Eq v61.1 y53.1)) fun v77 =>
              cond v77
                (M.bind (M.det (l15_works)) fun v80 =>
                M.pure v80)
                (M.pure false))
              (M.pure false))
            (M.pure false))
          (M.pure false))
        (M.pure false))
      (M.pure false)) (fun v63 =>
    M.pure v63)))))
end Go.Ep

namespace Go.Proofs
open Go.Shelf
def Tryz.pdq127_ren : Go.Shelf.Ren := ⟨fun | 14 => 127 | 20 => 140 | 21 => 141 | 22 => 142 | 23 => 143 | 24 => 144 | 25 => 145 | 26 => 146 | 27 => 147 | 46 => 167 | 47 => 168 | 48 => 169 | 49 => 170 | 50 => 171 | 15 => 128 | 57 => 178 | 28 => 148 | 29 => 149 | n => n, fun | 24 => 80 | 22 => 22 | 3 => 3 | 25 => 113 | 4 => 4 | 0 => 0 | 46 => 155 | 45 => 154 | 50 => 118 | 66 => 173 | 39 => 140 | 55 => 30 | 70 => 176 | 76 => 182 | 77 => 183 | 53 => 161 | 5 => 5 | 9 => 9 | n => n, fun | n => n⟩
theorem Tryz.pdq127 : Go.Proofs.SlLaysF0.n14 Tryz.prog Tryz.pdq127_ren := {
  mixed := by kernel_rfl
  f14 := ⟨Tryz.f127.name, by decide, Tryz.func127.trans (congrArg some (by kernel_rfl))⟩
  f15 := Tryz.func128.trans (congrArg some (by kernel_rfl))
  f20 := ⟨Tryz.f140.name, by decide, Tryz.func140.trans (congrArg some (by kernel_rfl))⟩
  f21 := ⟨Tryz.f141.name, by decide, Tryz.func141.trans (congrArg some (by kernel_rfl))⟩
  f22 := ⟨Tryz.f142.name, by decide, Tryz.func142.trans (congrArg some (by kernel_rfl))⟩
  f23 := ⟨Tryz.f143.name, by decide, Tryz.func143.trans (congrArg some (by kernel_rfl))⟩
  f24 := ⟨Tryz.f144.name, by decide, Tryz.func144.trans (congrArg some (by kernel_rfl))⟩
  f25 := ⟨Tryz.f145.name, by decide, Tryz.func145.trans (congrArg some (by kernel_rfl))⟩
  f26 := ⟨Tryz.f146.name, by decide, Tryz.func146.trans (congrArg some (by kernel_rfl))⟩
  f27 := ⟨Tryz.f147.name, by decide, Tryz.func147.trans (congrArg some (by kernel_rfl))⟩
  f28 := Tryz.func148.trans (congrArg some (by kernel_rfl))
  f29 := Tryz.func149.trans (congrArg some (by kernel_rfl))
  f46 := ⟨Tryz.f167.name, by decide, Tryz.func167.trans (congrArg some (by kernel_rfl))⟩
  f47 := Tryz.func168.trans (congrArg some (by kernel_rfl))
  f48 := Tryz.func169.trans (congrArg some (by kernel_rfl))
  f49 := ⟨Tryz.f170.name, by decide, Tryz.func170.trans (congrArg some (by kernel_rfl))⟩
  f50 := ⟨Tryz.f171.name, by decide, Tryz.func171.trans (congrArg some (by kernel_rfl))⟩
  f57 := ⟨Tryz.f178.name, by decide, Tryz.func178.trans (congrArg some (by kernel_rfl))⟩
  t0 := Tryz.underlying0
  a0 := Tryz.isAgg0
  z0 := Tryz.sizeOf0
  v0 := Tryz.zeroValue0
  t3 := Tryz.underlying3
  a3 := Tryz.isAgg3
  z3 := Tryz.sizeOf3
  v3 := Tryz.zeroValue3
  t4 := Tryz.underlying4
  a4 := Tryz.isAgg4
  z4 := Tryz.sizeOf4
  v4 := Tryz.zeroValue4
  t5 := Tryz.underlying5
  a5 := Tryz.isAgg5
  z5 := Tryz.sizeOf5
  v5 := Tryz.zeroValue5
  t9 := Tryz.underlying9
  a9 := Tryz.isAgg9
  z9 := Tryz.sizeOf9
  v9 := Tryz.zeroValue9
  t22 := Tryz.underlying22
  a22 := Tryz.isAgg22
  z22 := Tryz.sizeOf22
  v22 := Tryz.zeroValue22
  t25 := Tryz.underlying113
  a25 := Tryz.isAgg113
  z25 := Tryz.sizeOf113
  v25 := Tryz.zeroValue113
  t39 := Tryz.underlying140
  a39 := Tryz.isAgg140
  z39 := Tryz.sizeOf140
  v39 := Tryz.zeroValue140
  t45 := Tryz.underlying154
  a45 := Tryz.isAgg154
  z45 := Tryz.sizeOf154
  v45 := Tryz.zeroValue154
  t46 := Tryz.underlying155
  a46 := Tryz.isAgg155
  z46 := Tryz.sizeOf155
  v46 := Tryz.zeroValue155
  t50 := Tryz.underlying118
  a50 := Tryz.isAgg118
  z50 := Tryz.sizeOf118
  v50 := Tryz.zeroValue118
  t53 := Tryz.underlying161
  a53 := Tryz.isAgg161
  z53 := Tryz.sizeOf161
  v53 := Tryz.zeroValue161
  t55 := Tryz.underlying30
  a55 := Tryz.isAgg30
  z55 := Tryz.sizeOf30
  v55 := Tryz.zeroValue30
  t66 := Tryz.underlying173
  a66 := Tryz.isAgg173
  z66 := Tryz.sizeOf173
  v66 := Tryz.zeroValue173
  t70 := Tryz.underlying176
  a70 := Tryz.isAgg176
  z70 := Tryz.sizeOf176
  v70 := Tryz.zeroValue176
  t76 := Tryz.underlying182
  a76 := Tryz.isAgg182
  z76 := Tryz.sizeOf182
  v76 := Tryz.zeroValue182
  t77 := Tryz.underlying183
  a77 := Tryz.isAgg183
  z77 := Tryz.sizeOf183
  v77 := Tryz.zeroValue183 }
def Tryz.pdq130_ren : Go.Shelf.Ren := ⟨fun | 14 => 130 | 20 => 150 | 21 => 151 | 22 => 152 | 23 => 153 | 24 => 154 | 25 => 155 | 26 => 156 | 27 => 157 | 46 => 172 | 47 => 168 | 48 => 169 | 49 => 173 | 50 => 174 | 15 => 128 | 57 => 179 | 28 => 148 | 29 => 149 | n => n, fun | 24 => 89 | 22 => 37 | 3 => 3 | 25 => 116 | 4 => 4 | 0 => 0 | 46 => 155 | 45 => 154 | 50 => 118 | 66 => 173 | 39 => 140 | 55 => 30 | 70 => 176 | 76 => 182 | 77 => 183 | 53 => 161 | 5 => 5 | 9 => 9 | n => n, fun | n => n⟩
theorem Tryz.pdq130 : Go.Proofs.SlLaysF0.n14 Tryz.prog Tryz.pdq130_ren := {
  mixed := by kernel_rfl
  f14 := ⟨Tryz.f130.name, by decide, Tryz.func130.trans (congrArg some (by kernel_rfl))⟩
  f15 := Tryz.func128.trans (congrArg some (by kernel_rfl))
  f20 := ⟨Tryz.f150.name, by decide, Tryz.func150.trans (congrArg some (by kernel_rfl))⟩
  f21 := ⟨Tryz.f151.name, by decide, Tryz.func151.trans (congrArg some (by kernel_rfl))⟩
  f22 := ⟨Tryz.f152.name, by decide, Tryz.func152.trans (congrArg some (by kernel_rfl))⟩
  f23 := ⟨Tryz.f153.name, by decide, Tryz.func153.trans (congrArg some (by kernel_rfl))⟩
  f24 := ⟨Tryz.f154.name, by decide, Tryz.func154.trans (congrArg some (by kernel_rfl))⟩
  f25 := ⟨Tryz.f155.name, by decide, Tryz.func155.trans (congrArg some (by kernel_rfl))⟩
  f26 := ⟨Tryz.f156.name, by decide, Tryz.func156.trans (congrArg some (by kernel_rfl))⟩
  f27 := ⟨Tryz.f157.name, by decide, Tryz.func157.trans (congrArg some (by kernel_rfl))⟩
  f28 := Tryz.func148.trans (congrArg some (by kernel_rfl))
  f29 := Tryz.func149.trans (congrArg some (by kernel_rfl))
  f46 := ⟨Tryz.f172.name, by decide, Tryz.func172.trans (congrArg some (by kernel_rfl))⟩
  f47 := Tryz.func168.trans (congrArg some (by kernel_rfl))
  f48 := Tryz.func169.trans (congrArg some (by kernel_rfl))
  f49 := ⟨Tryz.f173.name, by decide, Tryz.func173.trans (congrArg some (by kernel_rfl))⟩
  f50 := ⟨Tryz.f174.name, by decide, Tryz.func174.trans (congrArg some (by kernel_rfl))⟩
  f57 := ⟨Tryz.f179.name, by decide, Tryz.func179.trans (congrArg some (by kernel_rfl))⟩
  t0 := Tryz.underlying0
  a0 := Tryz.isAgg0
  z0 := Tryz.sizeOf0
  v0 := Tryz.zeroValue0
  t3 := Tryz.underlying3
  a3 := Tryz.isAgg3
  z3 := Tryz.sizeOf3
  v3 := Tryz.zeroValue3
  t4 := Tryz.underlying4
  a4 := Tryz.isAgg4
  z4 := Tryz.sizeOf4
  v4 := Tryz.zeroValue4
  t5 := Tryz.underlying5
  a5 := Tryz.isAgg5
  z5 := Tryz.sizeOf5
  v5 := Tryz.zeroValue5
  t9 := Tryz.underlying9
  a9 := Tryz.isAgg9
  z9 := Tryz.sizeOf9
  v9 := Tryz.zeroValue9
  t22 := Tryz.underlying37
  a22 := Tryz.isAgg37
  z22 := Tryz.sizeOf37
  v22 := Tryz.zeroValue37
  t25 := Tryz.underlying116
  a25 := Tryz.isAgg116
  z25 := Tryz.sizeOf116
  v25 := Tryz.zeroValue116
  t39 := Tryz.underlying140
  a39 := Tryz.isAgg140
  z39 := Tryz.sizeOf140
  v39 := Tryz.zeroValue140
  t45 := Tryz.underlying154
  a45 := Tryz.isAgg154
  z45 := Tryz.sizeOf154
  v45 := Tryz.zeroValue154
  t46 := Tryz.underlying155
  a46 := Tryz.isAgg155
  z46 := Tryz.sizeOf155
  v46 := Tryz.zeroValue155
  t50 := Tryz.underlying118
  a50 := Tryz.isAgg118
  z50 := Tryz.sizeOf118
  v50 := Tryz.zeroValue118
  t53 := Tryz.underlying161
  a53 := Tryz.isAgg161
  z53 := Tryz.sizeOf161
  v53 := Tryz.zeroValue161
  t55 := Tryz.underlying30
  a55 := Tryz.isAgg30
  z55 := Tryz.sizeOf30
  v55 := Tryz.zeroValue30
  t66 := Tryz.underlying173
  a66 := Tryz.isAgg173
  z66 := Tryz.sizeOf173
  v66 := Tryz.zeroValue173
  t70 := Tryz.underlying176
  a70 := Tryz.isAgg176
  z70 := Tryz.sizeOf176
  v70 := Tryz.zeroValue176
  t76 := Tryz.underlying182
  a76 := Tryz.isAgg182
  z76 := Tryz.sizeOf182
  v76 := Tryz.zeroValue182
  t77 := Tryz.underlying183
  a77 := Tryz.isAgg183
  z77 := Tryz.sizeOf183
  v77 := Tryz.zeroValue183 }
def Tryz.pdq139_ren : Go.Shelf.Ren := ⟨fun | 14 => 139 | 20 => 159 | 21 => 160 | 22 => 161 | 23 => 162 | 24 => 163 | 25 => 164 | 26 => 165 | 27 => 166 | 46 => 175 | 47 => 168 | 48 => 169 | 49 => 176 | 50 => 177 | 15 => 128 | 57 => 180 | 28 => 148 | 29 => 149 | n => n, fun | 24 => 32 | 22 => 28 | 3 => 3 | 25 => 102 | 4 => 4 | 0 => 0 | 46 => 155 | 45 => 154 | 50 => 118 | 66 => 173 | 39 => 140 | 55 => 30 | 70 => 176 | 76 => 182 | 77 => 183 | 53 => 161 | 5 => 5 | 9 => 9 | n => n, fun | n => n⟩
theorem Tryz.pdq139 : Go.Proofs.SlLaysF0.n14 Tryz.prog Tryz.pdq139_ren := {
  mixed := by kernel_rfl
  f14 := ⟨Tryz.f139.name, by decide, Tryz.func139.trans (congrArg some (by kernel_rfl))⟩
  f15 := Tryz.func128.trans (congrArg some (by kernel_rfl))
  f20 := ⟨Tryz.f159.name, by decide, Tryz.func159.trans (congrArg some (by kernel_rfl))⟩
  f21 := ⟨Tryz.f160.name, by decide, Tryz.func160.trans (congrArg some (by kernel_rfl))⟩
  f22 := ⟨Tryz.f161.name, by decide, Tryz.func161.trans (congrArg some (by kernel_rfl))⟩
  f23 := ⟨Tryz.f162.name, by decide, Tryz.func162.trans (congrArg some (by kernel_rfl))⟩
  f24 := ⟨Tryz.f163.name, by decide, Tryz.func163.trans (congrArg some (by kernel_rfl))⟩
  f25 := ⟨Tryz.f164.name, by decide, Tryz.func164.trans (congrArg some (by kernel_rfl))⟩
  f26 := ⟨Tryz.f165.name, by decide, Tryz.func165.trans (congrArg some (by kernel_rfl))⟩
  f27 := ⟨Tryz.f166.name, by decide, Tryz.func166.trans (congrArg some (by kernel_rfl))⟩
  f28 := Tryz.func148.trans (congrArg some (by kernel_rfl))
  f29 := Tryz.func149.trans (congrArg some (by kernel_rfl))
  f46 := ⟨Tryz.f175.name, by decide, Tryz.func175.trans (congrArg some (by kernel_rfl))⟩
  f47 := Tryz.func168.trans (congrArg some (by kernel_rfl))
  f48 := Tryz.func169.trans (congrArg some (by kernel_rfl))
  f49 := ⟨Tryz.f176.name, by decide, Tryz.func176.trans (congrArg some (by kernel_rfl))⟩
  f50 := ⟨Tryz.f177.name, by decide, Tryz.func177.trans (congrArg some (by kernel_rfl))⟩
  f57 := ⟨Tryz.f180.name, by decide, Tryz.func180.trans (congrArg some (by kernel_rfl))⟩
  t0 := Tryz.underlying0
  a0 := Tryz.isAgg0
  z0 := Tryz.sizeOf0
  v0 := Tryz.zeroValue0
  t3 := Tryz.underlying3
  a3 := Tryz.isAgg3
  z3 := Tryz.sizeOf3
  v3 := Tryz.zeroValue3
  t4 := Tryz.underlying4
  a4 := Tryz.isAgg4
  z4 := Tryz.sizeOf4
  v4 := Tryz.zeroValue4
  t5 := Tryz.underlying5
  a5 := Tryz.isAgg5
  z5 := Tryz.sizeOf5
  v5 := Tryz.zeroValue5
  t9 := Tryz.underlying9
  a9 := Tryz.isAgg9
  z9 := Tryz.sizeOf9
  v9 := Tryz.zeroValue9
  t22 := Tryz.underlying28
  a22 := Tryz.isAgg28
  z22 := Tryz.sizeOf28
  v22 := Tryz.zeroValue28
  t25 := Tryz.underlying102
  a25 := Tryz.isAgg102
  z25 := Tryz.sizeOf102
  v25 := Tryz.zeroValue102
  t39 := Tryz.underlying140
  a39 := Tryz.isAgg140
  z39 := Tryz.sizeOf140
  v39 := Tryz.zeroValue140
  t45 := Tryz.underlying154
  a45 := Tryz.isAgg154
  z45 := Tryz.sizeOf154
  v45 := Tryz.zeroValue154
  t46 := Tryz.underlying155
  a46 := Tryz.isAgg155
  z46 := Tryz.sizeOf155
  v46 := Tryz.zeroValue155
  t50 := Tryz.underlying118
  a50 := Tryz.isAgg118
  z50 := Tryz.sizeOf118
  v50 := Tryz.zeroValue118
  t53 := Tryz.underlying161
  a53 := Tryz.isAgg161
  z53 := Tryz.sizeOf161
  v53 := Tryz.zeroValue161
  t55 := Tryz.underlying30
  a55 := Tryz.isAgg30
  z55 := Tryz.sizeOf30
  v55 := Tryz.zeroValue30
  t66 := Tryz.underlying173
  a66 := Tryz.isAgg173
  z66 := Tryz.sizeOf173
  v66 := Tryz.zeroValue173
  t70 := Tryz.underlying176
  a70 := Tryz.isAgg176
  z70 := Tryz.sizeOf176
  v70 := Tryz.zeroValue176
  t76 := Tryz.underlying182
  a76 := Tryz.isAgg182
  z76 := Tryz.sizeOf182
  v76 := Tryz.zeroValue182
  t77 := Tryz.underlying183
  a77 := Tryz.isAgg183
  z77 := Tryz.sizeOf183
  v77 := Tryz.zeroValue183 }
def Tryz.bits128_ren : Go.Shelf.Ren := ⟨fun | 15 => 128 | 28 => 148 | 29 => 149 | n => n, fun | 39 => 140 | 3 => 3 | 53 => 161 | 55 => 30 | 4 => 4 | 5 => 5 | 9 => 9 | n => n, fun | n => n⟩
theorem Tryz.bits128 : Go.Proofs.SlLaysF0.n15 Tryz.prog Tryz.bits128_ren := {
  mixed := by kernel_rfl
  f15 := Tryz.func128.trans (congrArg some (by kernel_rfl))
  f28 := Tryz.func148.trans (congrArg some (by kernel_rfl))
  f29 := Tryz.func149.trans (congrArg some (by kernel_rfl))
  t3 := Tryz.underlying3
  a3 := Tryz.isAgg3
  z3 := Tryz.sizeOf3
  v3 := Tryz.zeroValue3
  t4 := Tryz.underlying4
  a4 := Tryz.isAgg4
  z4 := Tryz.sizeOf4
  v4 := Tryz.zeroValue4
  t5 := Tryz.underlying5
  a5 := Tryz.isAgg5
  z5 := Tryz.sizeOf5
  v5 := Tryz.zeroValue5
  t9 := Tryz.underlying9
  a9 := Tryz.isAgg9
  z9 := Tryz.sizeOf9
  v9 := Tryz.zeroValue9
  t39 := Tryz.underlying140
  a39 := Tryz.isAgg140
  z39 := Tryz.sizeOf140
  v39 := Tryz.zeroValue140
  t53 := Tryz.underlying161
  a53 := Tryz.isAgg161
  z53 := Tryz.sizeOf161
  v53 := Tryz.zeroValue161
  t55 := Tryz.underlying30
  a55 := Tryz.isAgg30
  z55 := Tryz.sizeOf30
  v55 := Tryz.zeroValue30 }
end Go.Proofs

namespace Go.Ep
open Go.Shelf Go.RowKit Go.Lib Go.Sort Go.Proofs

theorem SortLaw.of {α : Type} [Inhabited α] {P : Program} {f g : FuncId} {k : Nat} {enc : α → List Value} {lt : α → α → Bool} {cf : α → α → Int} (hO : SWO (ltOf cf)) (hlt : ∀ x y, ltOf cf x y = lt x y) (hk : ∀ x, (enc x).length = k)
    (hnil : ∀ w : World, Calls P f #[.slice none 0 0, .func (.func g) #[] #[]] w fun e w' => e = .returned (.tuple #[]) ∧ Go.RowKit.Below w.heap.size w w')
    (hrow : ∀ (blk off cap : Nat) (d : Array α) (w : World), HoldsK enc k w blk off d → blk < w.heap.size → d.size < 4611686018427387904 →
      Calls P f #[.slice (some ⟨blk, off, none⟩) d.size cap, .func (.func g) #[] #[]] w fun e w' => e = .returned (.tuple #[]) ∧ ∃ n os, w' = sortWorldK enc k w blk off n (pdq (ltOf cf) d 0 d.size (Lib.bitLen d.size) true true) os) : SortLaw P f g k enc lt := by
  refine ⟨hnil, fun w blk cap l T cur hh hlc hcs hlen hcells => ?_⟩
  have hblk : blk < w.heap.size := (Array.getElem?_eq_some_iff.1 hh).1
  have hH : HoldsK enc k w blk 0 l.toArray := by
    intro j hj
    rw [size_flatK] at hj
    have hj' : j < l.length * k := by simpa using hj
    obtain ⟨hk0, h1, h2, h3⟩ := idx_split hj'
    constructor
    · rw [Nat.zero_add, cell_of_heap hh]
      show _ = some ((flatK enc k l.toArray)[j]!)
      rw [get_flatK _ _ _ _ hj]
      have hx : l[j / k]? = some l[j / k] := List.getElem?_eq_getElem h1
      have hlk : (enc l[j / k]).length = k := hk _
      have hu : (enc l[j / k])[j % k]? = some ((enc l[j / k])[j % k]'(by omega)) := List.getElem?_eq_getElem (by omega)
      have := hcells (j / k) _ (j % k) _ hx hu
      rw [h3] at this
      rw [this]
      have e1 : (l.toArray)[j / k]! = l[j / k] := by simp [h1]
      rw [e1]
      simp [hu]
    · simp [World.frozen?, hh]
  have hd : l.toArray.size = l.length := by simp
  have hcall := hrow blk 0 cap l.toArray w hH hblk (by simpa using hlen)
  rw [hd] at hcall
  refine hcall.mono fun e w' ⟨he, n, os, hw⟩ => ⟨he, ?_⟩
  have hp := pdq_sorts (ltOf cf) hO l.toArray 0 l.toArray.size (Lib.bitLen l.toArray.size) true true (Nat.zero_le _) (Nat.le_refl _) (Or.inl rfl)
  rw [hd] at hp
  generalize pdq (ltOf cf) l.toArray 0 l.length (Lib.bitLen l.length) true true = d' at hp hw
  obtain ⟨⟨hsz, _, hperm⟩, hsort⟩ := hp
  have hsz' : d'.size = l.length := by simpa using hsz
  have hp' : d'.toList.Perm l := by
    have e1 : (d'.extract 0 l.length).toList = d'.toList := by rw [← hsz']; simp
    have e2 : (l.toArray.extract 0 l.length).toList = l := by simp
    rw [e1, e2] at hperm
    exact hperm
  have hmod : ∀ b, b < w.heap.size → (sortWorldK enc k w blk 0 n d' os).heap[b]? = if blk = b then (w.heap[b]?).map (onCells (putCells id 0 (flatK enc k d'))) else w.heap[b]? := by
    intro b hb
    have hb2 : b < (putRowK enc k (Sort.ahead w n) blk 0 d').heap.size := by simpa [putRowK, Sort.ahead] using hb
    show (grow (putRowK enc k (Sort.ahead w n) blk 0 d') os).heap[b]? = _
    rw [Sort.heap_grow_old _ _ hb2]
    show ((w.heap.modify blk (onCells (putCells id 0 (flatK enc k d')))))[b]? = _
    rw [Array.getElem?_modify]
  subst hw
  refine ⟨d'.toList, (putCells id 0 (flatK enc k d') cur.toArray).toList, hp', ?_, ?_, ?_, ?_, rfl, rfl, rfl, ?_, ?_⟩
  · rw [List.pairwise_iff_getElem]
    intro i j hi hj hij
    have := hsort i j (Nat.zero_le _) hij (by simpa [hsz'] using hj)
    rw [hlt] at this
    have hi' : i < d'.size := by simpa using hi
    have hj' : j < d'.size := by simpa using hj
    simpa [hi', hj'] using this
  · rw [hmod blk hblk, if_pos rfl, hh]
    simp [onCells]
  · simp [putCells]
  · intro i x j u hi hu
    have hi' : i < l.length := by rw [← hsz']; have := (List.getElem?_eq_some_iff.1 hi).1; simpa using this
    have hj : j < k := by rw [← hk x]; exact (List.getElem?_eq_some_iff.1 hu).1
    have hlt2 : i * k + j < l.length * k := idx_lt hi' hj
    have hcl : l.length * k ≤ cur.length := by rw [hcs]; exact Nat.mul_le_mul_right k hlc
    have hin : i * k + j < d'.size * k := by rw [hsz']; exact hlt2
    have hget : (flatK enc k d')[i * k + j]! = u := by
      rw [get_flatK _ _ _ _ hin]
      have hk0 : 0 < k := by omega
      have e1 : (i * k + j) / k = i := by rw [Nat.mul_comm, Nat.mul_add_div hk0, Nat.div_eq_of_lt hj]; omega
      have e2 : (i * k + j) % k = j := by rw [Nat.mul_comm, Nat.mul_add_mod, Nat.mod_eq_of_lt hj]
      rw [e1, e2]
      have e3 : d'[i]! = x := by
        obtain ⟨h1, h2⟩ := List.getElem?_eq_some_iff.1 hi
        have h1' : i < d'.size := by simpa using h1
        rw [getElem!_pos d' i h1']
        simpa using h2
      rw [e3]
      simp [hu]
    have hc2 : i * k + j < cur.length := by omega
    simp only [putCells, Array.toList_mapIdx, List.getElem?_mapIdx]
    rw [List.getElem?_eq_getElem hc2]
    simp only [Option.map_some, id]
    rw [if_pos ⟨Nat.zero_le _, by rw [size_flatK]; omega⟩, Nat.sub_zero, hget]
  · show w.heap.size ≤ (grow (putRowK enc k (Sort.ahead w n) blk 0 d') os).heap.size
    simp [grow, putRowK, Sort.ahead]
  · intro b hb hne
    rw [hmod b hb, if_neg (Ne.symm hne)]
end Go.Ep

namespace Go.Proofs
set_option linter.unusedSimpArgs false
set_option linter.unusedVariables false
open Go.Shelf Go.RowKit Go.Lib Go.Sort Go.Ep
theorem nanu16 (a : Int) (W : World) : Calls Tryz.prog 129 #[.int .u16 a] W fun e w' => e = .returned (.bool false) ∧ w' = W := by
  go_enter Tryz.func129, Tryz.ntmps129
  go_wp2
  go_ret
  exact ⟨by simp, rfl⟩
theorem cmpu16 (a b : Int) (W : World) : Calls Tryz.prog 104 #[.int .u16 a, .int .u16 b] W fun e w' => e = .returned (.int .i64 (Lib.compareInt a b)) ∧ w' = W := by
  unfold Lib.compareInt
  by_cases h1 : a < b
  · go_enter Tryz.func104, Tryz.ntmps104
    go_wp2_with (go_at_call 129; refine (nanu16 _ _).mono ?_; rintro e w' ⟨rfl, rfl⟩)
    go_ret
    exact ⟨by simp [h1], rfl⟩
  · by_cases h2 : b < a
    · go_enter Tryz.func104, Tryz.ntmps104
      go_wp2_with (go_at_call 129; refine (nanu16 _ _).mono ?_; rintro e w' ⟨rfl, rfl⟩)
      go_ret
      exact ⟨by simp [h1, h2], rfl⟩
    · go_enter Tryz.func104, Tryz.ntmps104
      go_wp2_with (go_at_call 129; refine (nanu16 _ _).mono ?_; rintro e w' ⟨rfl, rfl⟩)
      go_ret
      exact ⟨by simp [h1, h2], rfl⟩
theorem nanu64 (a : Int) (W : World) : Calls Tryz.prog 131 #[.int .u64 a] W fun e w' => e = .returned (.bool false) ∧ w' = W := by
  go_enter Tryz.func131, Tryz.ntmps131
  go_wp2
  go_ret
  exact ⟨by simp, rfl⟩
theorem cmpu64 (a b : Int) (W : World) : Calls Tryz.prog 107 #[.int .u64 a, .int .u64 b] W fun e w' => e = .returned (.int .i64 (Lib.compareInt a b)) ∧ w' = W := by
  unfold Lib.compareInt
  by_cases h1 : a < b
  · go_enter Tryz.func107, Tryz.ntmps107
    go_wp2_with (go_at_call 131; refine (nanu64 _ _).mono ?_; rintro e w' ⟨rfl, rfl⟩)
    go_ret
    exact ⟨by simp [h1], rfl⟩
  · by_cases h2 : b < a
    · go_enter Tryz.func107, Tryz.ntmps107
      go_wp2_with (go_at_call 131; refine (nanu64 _ _).mono ?_; rintro e w' ⟨rfl, rfl⟩)
      go_ret
      exact ⟨by simp [h1, h2], rfl⟩
    · go_enter Tryz.func107, Tryz.ntmps107
      go_wp2_with (go_at_call 131; refine (nanu64 _ _).mono ?_; rintro e w' ⟨rfl, rfl⟩)
      go_ret
      exact ⟨by simp [h1, h2], rfl⟩
structure RawTPart where
  dev_ : Int
  c1 : Value
  h1 : c1.oneCell' = true
def RawTPart.v (r : RawTPart) : List Value := [.int .u16 r.dev_, r.c1]
theorem RawTPart.v1 (r : RawTPart) : ∀ u ∈ r.v, u.oneCell' = true := by
  intro u hu
  simp only [RawTPart.v, List.mem_cons, List.not_mem_nil, or_false] at hu
  rcases hu with rfl | rfl
  · rfl
  · exact r.h1
def RawTPart.R (x : TPart) (r : RawTPart) : Prop := r.dev_ = x.dev
theorem RawTPart.raw (w : World) (S : Nat → Prop) (x : TPart) (us : List Value) (hl : us.length = 2) (h : ∀ (j : Nat) (d : DV) (u : Value), (TPart.e x)[j]? = some d → us[j]? = some u → DRd w S d u) : ∃ r : RawTPart, r.v = us ∧ RawTPart.R x r := by
  match us, hl with
  | [u0, u1], _ =>
    refine ⟨⟨x.dev, u1, (h 1 _ u1 rfl rfl).one⟩, ?_, rfl⟩
    have e0 := h 0 _ u0 rfl rfl
    cases e0
    rfl
def cf102 (x y : RawTPart) : Int := Lib.compareInt x.dev_ y.dev_
theorem callcf102 (x y : RawTPart) (W : World) : Calls Tryz.prog 103 #[.agg #[.int .u16 x.dev_, x.c1], .agg #[.int .u16 y.dev_, y.c1]] W fun e w' => e = .returned (.int .i64 (cf102 x y)) ∧ ∃ q os', w' = grow (W.drewN q) os' := by
  have c1 := fun W' => cmpu16 x.dev_ y.dev_ W'
  unfold cf102
  generalize Lib.compareInt x.dev_ y.dev_ = r1 at c1 ⊢
  go_enter Tryz.func103, Tryz.ntmps103
  go_wp2_with (go_at_call 104; refine (c1 _).mono ?_; rintro e w' ⟨rfl, rfl⟩)
  go_ret
  exact ⟨rfl, 0, _, by rw [alloc_eq_grow, alloc_eq_grow, grow_grow]; rfl⟩
theorem ltcf102 (x y : RawTPart) : ltOf cf102 x y = (fun x y : RawTPart => decide (x.dev_ < y.dev_)) x y := by
  unfold ltOf cf102 Lib.compareInt 
  rw [Bool.eq_iff_iff]
  simp only [decide_eq_true_eq, Bool.or_eq_true, Bool.and_eq_true]
  split <;> (repeat' split) <;> omega
theorem swocf102 : SWO (ltOf cf102) where
  irrefl x := by rw [ltcf102]; simp []
  trans x y z h1 h2 := by rw [ltcf102] at *; simp [] at *; omega
  ntrans x y z h1 h2 := by rw [ltcf102] at *; simp [] at *; omega
instance inhcf102 : Inhabited RawTPart := ⟨⟨0, .int .u64 0, rfl⟩⟩
theorem layscf102 (blk off size : Nat) (w : World) : CmpLays Tryz.prog 103 #[] RawTPart.v 2 cf102 blk off size w := fun _ _ _ _ x y => callcf102 x y _
set_option maxHeartbeats 2000000 in
set_option maxRecDepth 100000 in
theorem sort102_eq (blk off cap : Nat) (d : Array RawTPart) (w : World) (hH : HoldsK RawTPart.v 2 w blk off d) (hblk : blk < w.heap.size) (hsz : d.size < 4611686018427387904) :
    Calls Tryz.prog 102 #[.slice (some ⟨blk, off, none⟩) d.size cap, .func (.func 103) #[] #[]] w fun e w' => e = .returned (.tuple #[]) ∧ ∃ n os, w' = sortWorldK RawTPart.v 2 w blk off n (pdq (ltOf cf102) d 0 d.size (Lib.bitLen d.size) true true) os := by
  have eg : ∀ args w, (callFunc 103 args).run Tryz.prog w = .ok (.enter 103 args) w := Tryz.call103
  have e14 := Tryz.call127
  have e15 := Tryz.call128
  have hlim : Lib.bitLen d.size < 4611686018427387904 := Nat.lt_of_le_of_lt (Lib.bitLen_le d.size 62 (by omega) (by omega)) (by omega)
  have hp := AnyQ.pdqsortCmpFunc_all Tryz.pdq127 2 Tryz.isAgg80 Tryz.sizeOf80 RawTPart.v cf102 103 #[] swocf102 blk off cap d w eg (layscf102 blk off d.size w) ⟨fun _ => rfl, RawTPart.v1, hH, hblk⟩ (d.size + 1) 0 d.size (Lib.bitLen d.size) d w (by omega) rfl (SWK.start hH) (Nat.zero_le _) (Nat.le_refl _) hsz hlim (Or.inl rfl)
  change Calls Tryz.prog 127 _ _ _ at hp
  have hl : Calls Tryz.prog 128 #[.int .u64 (d.size : Int)] w fun e w' => e = .returned (.int .i64 (Lib.bitLen d.size : Nat)) ∧ w' = w := by
    have h := Any.bits_Len (SlLaysF0.n15.bits Tryz.bits128) (d.size : Int) w (by omega) (by omega)
    rwa [Int.toNat_natCast] at h
  have wr : IntKind.u64.wrap (d.size : Int) = d.size := by simp [IntKind.wrap, IntKind.bits, IntKind.signed]; omega
  clear hH
  go_enter Tryz.func102, Tryz.ntmps102
  go_wp2_with (first | (go_at_call 128; refine hl.mono ?_; rintro e w' ⟨rfl, rfl⟩) | (go_at_call 127; refine hp.mono ?_; rintro e w' ⟨rfl, n, os, rfl⟩))
  go_end0
  exact ⟨rfl, n, os, rfl⟩
theorem sort102_nil (w : World) : Calls Tryz.prog 102 #[.slice none 0 0, .func (.func 103) #[] #[]] w fun e w' => e = .returned (.tuple #[]) ∧ Go.RowKit.Below w.heap.size w w' := by
  have e14 := Tryz.call127
  have e15 := Tryz.call128
  have hp := fun lim W => AnyF.pdqsortCmpFunc_none Tryz.pdq127 none 0 lim (.func (.func 103) #[] #[]) W
  have hl : ∀ W, Calls Tryz.prog 128 #[.int .u64 0] W fun e w' => e = .returned (.int .i64 (Lib.bitLen 0 : Nat)) ∧ w' = W := fun W => by
    have h := Any.bits_Len (SlLaysF0.n15.bits Tryz.bits128) 0 W (by omega) (by omega)
    exact h
  go_enter Tryz.func102, Tryz.ntmps102
  go_wp2_with (first | (go_at_call 128; refine (hl _).mono ?_; rintro e w' ⟨rfl, rfl⟩) | (go_at_call 127; refine (hp _ _).mono ?_; rintro e w' ⟨rfl, rfl⟩))
  go_end0
  exact ⟨rfl, Go.RowKit.Below.refl _ _⟩
theorem srt102_103 : SortLaw Tryz.prog 102 103 2 RawTPart.v (fun x y : RawTPart => decide (x.dev_ < y.dev_)) := SortLaw.of swocf102 ltcf102 (fun _ => rfl) sort102_nil (fun blk off cap d w hH hblk hsz => sort102_eq blk off cap d w hH hblk hsz)
theorem rlt102 (x y : TPart) (r r' : RawTPart) (h1 : RawTPart.R x r) (h2 : RawTPart.R y r') : ((fun x y : RawTPart => decide (x.dev_ < y.dev_))) r r' = ltPart x y := by simp only [RawTPart.R] at h1 h2; simp [h1, h2, ltPart]
def cf105 (x y : TRun) : Int := Lib.compareInt x.lo y.lo
theorem callcf105 (x y : TRun) (W : World) : Calls Tryz.prog 106 #[.agg #[.int .u64 x.lo, .int .u64 x.hi], .agg #[.int .u64 y.lo, .int .u64 y.hi]] W fun e w' => e = .returned (.int .i64 (cf105 x y)) ∧ ∃ q os', w' = grow (W.drewN q) os' := by
  have c1 := fun W' => cmpu64 x.lo y.lo W'
  unfold cf105
  generalize Lib.compareInt x.lo y.lo = r1 at c1 ⊢
  go_enter Tryz.func106, Tryz.ntmps106
  go_wp2_with (go_at_call 107; refine (c1 _).mono ?_; rintro e w' ⟨rfl, rfl⟩)
  go_ret
  exact ⟨rfl, 0, _, by rw [alloc_eq_grow, alloc_eq_grow, grow_grow]; rfl⟩
theorem ltcf105 (x y : TRun) : ltOf cf105 x y = ltRun x y := by
  unfold ltOf cf105 Lib.compareInt ltRun
  rw [Bool.eq_iff_iff]
  simp only [decide_eq_true_eq, Bool.or_eq_true, Bool.and_eq_true]
  split <;> (repeat' split) <;> omega
theorem swocf105 : SWO (ltOf cf105) where
  irrefl x := by rw [ltcf105]; simp [ltRun]
  trans x y z h1 h2 := by rw [ltcf105] at *; simp [ltRun] at *; omega
  ntrans x y z h1 h2 := by rw [ltcf105] at *; simp [ltRun] at *; omega
instance inhcf105 : Inhabited TRun := ⟨⟨0, 0⟩⟩
theorem layscf105 (blk off size : Nat) (w : World) : CmpLays Tryz.prog 106 #[] TRun.v 2 cf105 blk off size w := fun _ _ _ _ x y => callcf105 x y _
set_option maxHeartbeats 2000000 in
set_option maxRecDepth 100000 in
theorem sort105_eq (blk off cap : Nat) (d : Array TRun) (w : World) (hH : HoldsK TRun.v 2 w blk off d) (hblk : blk < w.heap.size) (hsz : d.size < 4611686018427387904) :
    Calls Tryz.prog 105 #[.slice (some ⟨blk, off, none⟩) d.size cap, .func (.func 106) #[] #[]] w fun e w' => e = .returned (.tuple #[]) ∧ ∃ n os, w' = sortWorldK TRun.v 2 w blk off n (pdq (ltOf cf105) d 0 d.size (Lib.bitLen d.size) true true) os := by
  have eg : ∀ args w, (callFunc 106 args).run Tryz.prog w = .ok (.enter 106 args) w := Tryz.call106
  have e14 := Tryz.call130
  have e15 := Tryz.call128
  have hlim : Lib.bitLen d.size < 4611686018427387904 := Nat.lt_of_le_of_lt (Lib.bitLen_le d.size 62 (by omega) (by omega)) (by omega)
  have hp := AnyQ.pdqsortCmpFunc_all Tryz.pdq130 2 Tryz.isAgg89 Tryz.sizeOf89 TRun.v cf105 106 #[] swocf105 blk off cap d w eg (layscf105 blk off d.size w) ⟨fun _ => rfl, TRun.v1, hH, hblk⟩ (d.size + 1) 0 d.size (Lib.bitLen d.size) d w (by omega) rfl (SWK.start hH) (Nat.zero_le _) (Nat.le_refl _) hsz hlim (Or.inl rfl)
  change Calls Tryz.prog 130 _ _ _ at hp
  have hl : Calls Tryz.prog 128 #[.int .u64 (d.size : Int)] w fun e w' => e = .returned (.int .i64 (Lib.bitLen d.size : Nat)) ∧ w' = w := by
    have h := Any.bits_Len (SlLaysF0.n15.bits Tryz.bits128) (d.size : Int) w (by omega) (by omega)
    rwa [Int.toNat_natCast] at h
  have wr : IntKind.u64.wrap (d.size : Int) = d.size := by simp [IntKind.wrap, IntKind.bits, IntKind.signed]; omega
  clear hH
  go_enter Tryz.func105, Tryz.ntmps105
  go_wp2_with (first | (go_at_call 128; refine hl.mono ?_; rintro e w' ⟨rfl, rfl⟩) | (go_at_call 130; refine hp.mono ?_; rintro e w' ⟨rfl, n, os, rfl⟩))
  go_end0
  exact ⟨rfl, n, os, rfl⟩
theorem sort105_nil (w : World) : Calls Tryz.prog 105 #[.slice none 0 0, .func (.func 106) #[] #[]] w fun e w' => e = .returned (.tuple #[]) ∧ Go.RowKit.Below w.heap.size w w' := by
  have e14 := Tryz.call130
  have e15 := Tryz.call128
  have hp := fun lim W => AnyF.pdqsortCmpFunc_none Tryz.pdq130 none 0 lim (.func (.func 106) #[] #[]) W
  have hl : ∀ W, Calls Tryz.prog 128 #[.int .u64 0] W fun e w' => e = .returned (.int .i64 (Lib.bitLen 0 : Nat)) ∧ w' = W := fun W => by
    have h := Any.bits_Len (SlLaysF0.n15.bits Tryz.bits128) 0 W (by omega) (by omega)
    exact h
  go_enter Tryz.func105, Tryz.ntmps105
  go_wp2_with (first | (go_at_call 128; refine (hl _).mono ?_; rintro e w' ⟨rfl, rfl⟩) | (go_at_call 130; refine (hp _ _).mono ?_; rintro e w' ⟨rfl, rfl⟩))
  go_end0
  exact ⟨rfl, Go.RowKit.Below.refl _ _⟩
theorem srt105_106 : SortLaw Tryz.prog 105 106 2 TRun.v ltRun := SortLaw.of swocf105 ltcf105 (fun _ => rfl) sort105_nil (fun blk off cap d w hH hblk hsz => sort105_eq blk off cap d w hH hblk hsz)
def cf124 (x y : TDot) : Int := if Lib.compareInt x.dev y.dev ≠ 0 then Lib.compareInt x.dev y.dev else Lib.compareInt x.n y.n
theorem callcf124 (x y : TDot) (W : World) : Calls Tryz.prog 87 #[.agg #[.int .u16 x.dev, .int .u64 x.n], .agg #[.int .u16 y.dev, .int .u64 y.n]] W fun e w' => e = .returned (.int .i64 (cf124 x y)) ∧ ∃ q os', w' = grow (W.drewN q) os' := by
  have c1 := fun W' => cmpu16 x.dev y.dev W'
  have c2 := fun W' => cmpu64 x.n y.n W'
  unfold cf124
  generalize Lib.compareInt x.dev y.dev = r1 at c1 ⊢
  generalize Lib.compareInt x.n y.n = r2 at c2 ⊢
  by_cases h : r1 = 0
  · subst h
    go_enter Tryz.func87, Tryz.ntmps87
    go_wp2_with (first | (go_at_call 104; refine (c1 _).mono ?_; rintro e w' ⟨rfl, rfl⟩) | (go_at_call 107; refine (c2 _).mono ?_; rintro e w' ⟨rfl, rfl⟩))
    go_ret
    exact ⟨by simp, 0, _, by rw [alloc_eq_grow, alloc_eq_grow, grow_grow]; rfl⟩
  · go_enter Tryz.func87, Tryz.ntmps87
    go_wp2_with (first | (go_at_call 104; refine (c1 _).mono ?_; rintro e w' ⟨rfl, rfl⟩) | (go_at_call 107; refine (c2 _).mono ?_; rintro e w' ⟨rfl, rfl⟩))
    go_ret
    exact ⟨by simp [h], 0, _, by rw [alloc_eq_grow, alloc_eq_grow, grow_grow]; rfl⟩
theorem ltcf124 (x y : TDot) : ltOf cf124 x y = ltDot x y := by
  unfold ltOf cf124 Lib.compareInt ltDot
  rw [Bool.eq_iff_iff]
  simp only [decide_eq_true_eq, Bool.or_eq_true, Bool.and_eq_true]
  split <;> (repeat' split) <;> omega
theorem swocf124 : SWO (ltOf cf124) where
  irrefl x := by rw [ltcf124]; simp [ltDot]
  trans x y z h1 h2 := by rw [ltcf124] at *; simp [ltDot] at *; omega
  ntrans x y z h1 h2 := by rw [ltcf124] at *; simp [ltDot] at *; omega
instance inhcf124 : Inhabited TDot := ⟨⟨0, 0⟩⟩
theorem layscf124 (blk off size : Nat) (w : World) : CmpLays Tryz.prog 87 #[] TDot.v 2 cf124 blk off size w := fun _ _ _ _ x y => callcf124 x y _
set_option maxHeartbeats 2000000 in
set_option maxRecDepth 100000 in
theorem sort124_eq (blk off cap : Nat) (d : Array TDot) (w : World) (hH : HoldsK TDot.v 2 w blk off d) (hblk : blk < w.heap.size) (hsz : d.size < 4611686018427387904) :
    Calls Tryz.prog 124 #[.slice (some ⟨blk, off, none⟩) d.size cap, .func (.func 87) #[] #[]] w fun e w' => e = .returned (.tuple #[]) ∧ ∃ n os, w' = sortWorldK TDot.v 2 w blk off n (pdq (ltOf cf124) d 0 d.size (Lib.bitLen d.size) true true) os := by
  have eg : ∀ args w, (callFunc 87 args).run Tryz.prog w = .ok (.enter 87 args) w := Tryz.call87
  have e14 := Tryz.call139
  have e15 := Tryz.call128
  have hlim : Lib.bitLen d.size < 4611686018427387904 := Nat.lt_of_le_of_lt (Lib.bitLen_le d.size 62 (by omega) (by omega)) (by omega)
  have hp := AnyQ.pdqsortCmpFunc_all Tryz.pdq139 2 Tryz.isAgg32 Tryz.sizeOf32 TDot.v cf124 87 #[] swocf124 blk off cap d w eg (layscf124 blk off d.size w) ⟨fun _ => rfl, TDot.v1, hH, hblk⟩ (d.size + 1) 0 d.size (Lib.bitLen d.size) d w (by omega) rfl (SWK.start hH) (Nat.zero_le _) (Nat.le_refl _) hsz hlim (Or.inl rfl)
  change Calls Tryz.prog 139 _ _ _ at hp
  have hl : Calls Tryz.prog 128 #[.int .u64 (d.size : Int)] w fun e w' => e = .returned (.int .i64 (Lib.bitLen d.size : Nat)) ∧ w' = w := by
    have h := Any.bits_Len (SlLaysF0.n15.bits Tryz.bits128) (d.size : Int) w (by omega) (by omega)
    rwa [Int.toNat_natCast] at h
  have wr : IntKind.u64.wrap (d.size : Int) = d.size := by simp [IntKind.wrap, IntKind.bits, IntKind.signed]; omega
  clear hH
  go_enter Tryz.func124, Tryz.ntmps124
  go_wp2_with (first | (go_at_call 128; refine hl.mono ?_; rintro e w' ⟨rfl, rfl⟩) | (go_at_call 139; refine hp.mono ?_; rintro e w' ⟨rfl, n, os, rfl⟩))
  go_end0
  exact ⟨rfl, n, os, rfl⟩
theorem sort124_nil (w : World) : Calls Tryz.prog 124 #[.slice none 0 0, .func (.func 87) #[] #[]] w fun e w' => e = .returned (.tuple #[]) ∧ Go.RowKit.Below w.heap.size w w' := by
  have e14 := Tryz.call139
  have e15 := Tryz.call128
  have hp := fun lim W => AnyF.pdqsortCmpFunc_none Tryz.pdq139 none 0 lim (.func (.func 87) #[] #[]) W
  have hl : ∀ W, Calls Tryz.prog 128 #[.int .u64 0] W fun e w' => e = .returned (.int .i64 (Lib.bitLen 0 : Nat)) ∧ w' = W := fun W => by
    have h := Any.bits_Len (SlLaysF0.n15.bits Tryz.bits128) 0 W (by omega) (by omega)
    exact h
  go_enter Tryz.func124, Tryz.ntmps124
  go_wp2_with (first | (go_at_call 128; refine (hl _).mono ?_; rintro e w' ⟨rfl, rfl⟩) | (go_at_call 139; refine (hp _ _).mono ?_; rintro e w' ⟨rfl, rfl⟩))
  go_end0
  exact ⟨rfl, Go.RowKit.Below.refl _ _⟩
theorem srt124_87 : SortLaw Tryz.prog 124 87 2 TDot.v ltDot := SortLaw.of swocf124 ltcf124 (fun _ => rfl) sort124_nil (fun blk off cap d w hH hblk hsz => sort124_eq blk off cap d w hH hblk hsz)
end Go.Proofs

