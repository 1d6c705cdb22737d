/- What the functions compute, plainly: written by program. -/
import Derived.Test.YtacnidaafcfgiaaLt
namespace Go.Ep
open Go

/-- epitaph/dot.Good -/
def dot_Good (d1 : TDot) : M Bool :=
  M.bind (cond (decide (0 < d1.dev))
    (cond (decide (0 < d1.n))
      (M.pure (decide (d1.n ≤ 281474976710655)))
      (M.pure false))
    (M.pure false)) (fun v2 =>
  M.pure v2)

/-- cmp.isNaN[uint64] -/
def cmp_isNaN_uint64 (x1 : Int) : M Bool :=
  M.pure (!decide (x1 = x1))

/-- cmp.Compare[uint64] -/
def cmp_Compare_uint64 (x1 : Int) (y2 : Int) : M Int :=
  M.bind (M.det (cmp_isNaN_uint64 x1)) fun v3 =>
  M.bind (M.det (cmp_isNaN_uint64 y2)) fun v5 =>
  cond v3
    (cond v5
      (M.pure 0)
      (M.pure (-1)))
    (cond v5
      (M.pure 1)
      (cond (decide (x1 < y2))
        (M.pure (-1))
        (cond (decide (y2 < x1))
          (M.pure 1)
          (M.pure 0))))

/-- epitaph/runs.Norm$1 -/
def runs_Norm_c1 (a1 : TRun) (b2 : TRun) : M Int :=
  M.bind (M.det (cmp_Compare_uint64 a1.lo b2.lo)) fun v3 =>
  M.pure v3

def runs_Norm_l0 (l1 : List TRun) : Int × List TRun → M (M.Step (Int × List TRun) (List TRun)) := fun ⟨v23, some24⟩ =>
  cond ((decide (v23 < (List.length l1 : Int))))
    (M.bind (M.bind (M.idx l1 v23) fun x27 =>
    M.bind (cond (decide (0 < x27.lo))
      (cond (decide (x27.lo ≤ x27.hi))
        (M.pure (decide (x27.hi ≤ 281474976710655)))
        (M.pure false))
      (M.pure false)) (fun v29 =>
    cond v29
      (M.need ((List.length some24 + List.length ([x27])) * 16 ≤ 140737488355328) <|
      M.pure (some24 ++ [x27]))
      (M.pure some24))) (fun some26 =>
    M.pure (.next (((IntKind.i64.wrap (v23 + 1)), some26)))))
    (M.pure (.done some24))
def runs_Norm_l1 (some2 : List TRun) (s34 : List TRun) : Int × List TRun → M (M.Step (Int × List TRun) (List TRun)) := fun ⟨v69, out70⟩ =>
  cond ((decide (v69 < ((List.length some2) : Int))))
    (M.bind (M.bind (M.idx s34 v69) fun x73 =>
    M.bind (cond ((decide (0 ≤ ((IntKind.i64.wrap (((List.length out70) : Int) - 1))))))
      (M.bind (M.idx out70 ((IntKind.i64.wrap (((List.length out70) : Int) - 1)))) fun x77 =>
      M.pure ((decide (x73.lo ≤ (IntKind.u64.wrap (x77.hi + 1))))))
      (M.pure false)) (fun v75 =>
    cond v75
      (M.bind (M.idx out70 ((IntKind.i64.wrap (((List.length out70) : Int) - 1)))) fun x80 =>
      M.bind (M.idx out70 ((IntKind.i64.wrap (((List.length out70) : Int) - 1)))) fun x82 =>
      M.pure ((List.set out70 ((Int.toNat ((IntKind.i64.wrap (((List.length out70) : Int) - 1))))) (⟨x82.lo, (max x80.hi x73.hi)⟩ : TRun))))
      (M.need ((List.length out70 + List.length ([x73])) * 16 ≤ 140737488355328) <|
      M.pure (out70 ++ [x73])))) (fun out72 =>
    M.pure (.next (((IntKind.i64.wrap (v69 + 1)), out72)))))
    (M.pure (.done out70))
/-- epitaph/runs.Norm -/
def runs_Norm (l1 : List TRun) : M (List TRun) :=
  M.bind (M.loop (runs_Norm_l0 l1) (0, ([] : List TRun))) (fun some2 =>
  M.need (List.length some2 < 4611686018427387904) <| M.bind (M.srt ltRun some2) fun s34 =>
  M.bind (M.loop (runs_Norm_l1 some2 s34) (0, ([] : List TRun))) (fun out38 =>
  M.pure out38))

/-- cmp.isNaN[uint16] -/
def cmp_isNaN_uint16 (x1 : Int) : M Bool :=
  M.pure (!decide (x1 = x1))

/-- cmp.Compare[uint16] -/
def cmp_Compare_uint16 (x1 : Int) (y2 : Int) : M Int :=
  M.bind (M.det (cmp_isNaN_uint16 x1)) fun v3 =>
  M.bind (M.det (cmp_isNaN_uint16 y2)) fun v5 =>
  cond v3
    (cond v5
      (M.pure 0)
      (M.pure (-1)))
    (cond v5
      (M.pure 1)
      (cond (decide (x1 < y2))
        (M.pure (-1))
        (cond (decide (y2 < x1))
          (M.pure 1)
          (M.pure 0))))

/-- epitaph/ctx.order$1 -/
def ctx_order_c1 (a1 : TPart) (b2 : TPart) : M Int :=
  M.bind (M.det (cmp_Compare_uint16 a1.dev b2.dev)) fun v3 =>
  M.pure v3

def ctx_order_l0 (m1 : List (Int × List TRun)) : List Nat × List TPart → M (M.Step (List Nat × List TPart) (List TPart)) := fun ⟨seen28, c29⟩ =>
  M.need (∀ i ∈ seen28, i < List.length m1) <| M.bind (M.nxt (List.length m1) seen28) fun o => match o with
  | none =>
    M.pure (.done c29)
  | some j30 =>
    M.bind (M.idx m1 (Int.ofNat j30)) fun kv34 =>
    M.bind (M.det (runs_Norm kv34.2)) fun v36 =>
    cond ((decide (0 < ((List.length v36) : Int))))
      (M.need ((List.length c29 + List.length ([(⟨kv34.1, v36⟩ : TPart)])) * 32 ≤ 140737488355328) <|
      M.pure (.next (((seen28 ++ [j30]), (c29 ++ [(⟨kv34.1, v36⟩ : TPart)])))))
      (M.pure (.next ((seen28 ++ [j30]), c29)))
/-- epitaph/ctx.order -/
def ctx_order (m1 : List (Int × List TRun)) : M (List TPart) :=
  M.bind (M.loop (ctx_order_l0 m1) ([], ([] : List TPart))) (fun c3 =>
  M.need (List.length c3 < 4611686018427387904) <| M.bind (M.srt ltPart c3) fun s41 =>
  M.pure s41)

def dot_GoodB (d : TDot) : Bool := decide (0 < d.dev) && (decide (0 < d.n) && decide (d.n ≤ 281474976710655))
theorem dot_GoodB_eq (d : TDot) : dot_Good d = M.pure (dot_GoodB d) := by
  unfold dot_Good dot_GoodB
  rw [M.cond_pure_and, M.cond_pure_and]; rfl
def ctx_OfF (d : TDot) : Option (Int × List TRun) := if dot_GoodB d then some (d.dev, [⟨d.n, d.n⟩]) else none
/-- epitaph/ctx.Of -/
def ctx_Of (l1 : List TDot) : M (List TPart) :=
  M.need (AL.growOK 16 (List.length l1) (List.filterMap ctx_OfF l1)) <|
  M.bind (M.det (ctx_order ((AL.grow ([] : List (Int × List TRun)) (List.filterMap ctx_OfF l1))))) fun v17 =>
  M.pure v17

def ctx_toldF (p : TPart) : Option (Int × List TRun) := if 0 < p.dev then some (p.dev, p.runs) else none
/-- epitaph/ctx.told -/
def ctx_told (c1 : List TPart) : M (List (Int × List TRun)) :=
  M.need (AL.growOK 16 (List.length c1) (List.filterMap ctx_toldF c1)) <|
  M.pure ((AL.grow ([] : List (Int × List TRun)) (List.filterMap ctx_toldF c1)))

/-- epitaph/ctx.Norm -/
def ctx_Norm (c1 : List TPart) : M (List TPart) :=
  M.bind (M.det (ctx_told c1)) fun v2 =>
  M.bind (M.det (ctx_order v2)) fun v5 =>
  M.pure v5

/-- slices.Grow[epitaph/api.Ctx,epitaph/api.Part] -/
def slices_Grow_Ctx_Part_nil (n1 : Int) : M (List TPart) :=
  cond (decide (n1 < 0))
    M.fail
    (M.bind (cond ((decide (0 < ((IntKind.i64.wrap (n1 - (IntKind.i64.wrap (0 - 0))))))))
      (M.need (0 < ((IntKind.i64.wrap (n1 - (IntKind.i64.wrap (0 - 0))))) ∧ ((IntKind.i64.wrap (n1 - (IntKind.i64.wrap (0 - 0))))) * 32 ≤ 140737488355328) <|
      M.need ((0 : Int) ≤ 0 ∧ (0 : Int) ≤ 0 ∧ 0 ≤ (List.length ((List.replicate (Int.toNat ((IntKind.i64.wrap (n1 - (IntKind.i64.wrap (0 - 0)))))) (⟨0, ([] : List TRun)⟩ : TPart))) : Int)) <|
      M.pure ((List.take (Int.toNat 0) ((List.replicate (Int.toNat ((IntKind.i64.wrap (n1 - (IntKind.i64.wrap (0 - 0)))))) (⟨0, ([] : List TRun)⟩ : TPart))))))
      (M.pure ([]))) (fun v3 =>
    M.pure v3))

def slices_Concat_Ctx_Part_l0 (slices1 : List (List TPart)) : Int × Int → M (M.Step (Int × Int) Int) := fun ⟨size13, v14⟩ =>
  cond ((decide (v14 < (List.length slices1 : Int))))
    (M.bind (M.idx slices1 v14) fun x16 =>
    cond ((decide (((IntKind.i64.wrap (size13 + (List.length x16 : Int)))) < 0)))
      M.fail
      (M.pure (.next (((IntKind.i64.wrap (size13 + (List.length x16 : Int))), (IntKind.i64.wrap (v14 + 1)))))))
    (M.pure (.done size13))
def slices_Concat_Ctx_Part_l1 (slices1 : List (List TPart)) : Int × List TPart → M (M.Step (Int × List TPart) (List TPart)) := fun ⟨v32, v33⟩ =>
  cond ((decide (v32 < (List.length slices1 : Int))))
    (M.bind (M.idx slices1 v32) fun x35 =>
    M.need ((List.length v33 + List.length x35) * 32 ≤ 140737488355328) <|
    M.pure (.next (((IntKind.i64.wrap (v32 + 1)), (v33 ++ x35)))))
    (M.pure (.done v33))
/-- slices.Concat[epitaph/api.Ctx,epitaph/api.Part] -/
def slices_Concat_Ctx_Part (slices1 : List (List TPart)) : M (List TPart) :=
  M.bind (M.loop (slices_Concat_Ctx_Part_l0 slices1) (0, 0)) (fun size2 =>
  M.bind (M.det (slices_Grow_Ctx_Part_nil size2)) fun v19 =>
  M.bind (M.loop (slices_Concat_Ctx_Part_l1 slices1) (0, v19)) (fun v21 =>
  M.pure v21))

/-- epitaph/ctx.Join -/
def ctx_Join (a1 : List TPart) (b2 : List TPart) : M (List TPart) :=
  M.bind (M.det (slices_Concat_Ctx_Part ([a1, b2]))) fun v3 =>
  M.bind (M.det (ctx_Norm v3)) fun v5 =>
  M.pure v5

/-- epitaph/ctx.Add -/
def ctx_Add (c1 : List TPart) (l2 : List TDot) : M (List TPart) :=
  M.bind (M.det (ctx_Of l2)) fun v3 =>
  M.bind (M.det (ctx_Join c1 v3)) fun v5 =>
  M.pure v5

/-- epitaph/runs.First -/
def runs_First (l1 : List TRun) : M Int :=
  M.bind (M.det (runs_Norm l1)) fun v2 =>
  M.bind (cond ((decide (0 < ((List.length v2) : Int))))
    (M.bind (M.idx v2 0) fun x6 =>
    M.pure (decide (x6.lo = 1)))
    (M.pure false)) (fun v4 =>
  cond v4
    (M.bind (M.idx v2 0) fun x9 =>
    M.pure (IntKind.u64.wrap (x9.hi + 1)))
    (M.pure 1))

/-- epitaph/dot.Cmp -/
def dot_Cmp (a1 : TDot) (b2 : TDot) : M Int :=
  M.bind (M.det (cmp_Compare_uint16 a1.dev b2.dev)) fun v3 =>
  cond (!decide (v3 = 0))
    (M.pure v3)
    (M.bind (M.det (cmp_Compare_uint64 a1.n b2.n)) fun v6 =>
    M.pure v6)

def vec_order_l0 (m1 : List (Int × Int)) : List Nat × List TDot → M (M.Step (List Nat × List TDot) (List TDot)) := fun ⟨seen24, v25⟩ =>
  M.need (∀ i ∈ seen24, i < List.length m1) <| M.bind (M.nxt (List.length m1) seen24) fun o => match o with
  | none =>
    M.pure (.done v25)
  | some j26 =>
    M.bind (M.idx m1 (Int.ofNat j26)) fun kv30 =>
    cond (decide (0 < kv30.2))
      (M.need ((List.length v25 + List.length ([(⟨kv30.1, kv30.2⟩ : TDot)])) * 16 ≤ 140737488355328) <|
      M.pure (.next (((seen24 ++ [j26]), (v25 ++ [(⟨kv30.1, kv30.2⟩ : TDot)])))))
      (M.pure (.next ((seen24 ++ [j26]), v25)))
/-- epitaph/vec.order -/
def vec_order (m1 : List (Int × Int)) : M (List TDot) :=
  M.bind (M.loop (vec_order_l0 m1) ([], ([] : List TDot))) (fun v3 =>
  M.need (List.length v3 < 4611686018427387904) <| M.bind (M.srt ltDot v3) fun s35 =>
  M.pure s35)

def vec_told_l0 (v1 : List TDot) : Int × (List (Int × Int)) → M (M.Step (Int × (List (Int × Int))) (List (Int × Int))) := fun ⟨v27, v28⟩ =>
  cond ((decide (v27 < (List.length v1 : Int))))
    (M.bind (M.bind (M.idx v1 v27) fun x35 =>
    M.bind (M.det (dot_Good x35)) fun v37 =>
    cond v37
      (M.pure ((AL.set v28 x35.dev (max (AL.getZ v28 x35.dev 0) x35.n))))
      (M.pure v28)) (fun v32 =>
    M.pure (.next (((IntKind.i64.wrap (v27 + 1)), v32)))))
    (M.pure (.done v28))
/-- epitaph/vec.told -/
def vec_told (v1 : List TDot) : M (List (Int × Int)) :=
  M.bind (M.loop (vec_told_l0 v1) ((0, ([] : List (Int × Int))))) (fun v2 =>
  M.pure v2)

/-- epitaph/vec.Norm -/
def vec_Norm (v1 : List TDot) : M (List TDot) :=
  M.bind (M.det (vec_told v1)) fun v2 =>
  M.bind (M.det (vec_order v2)) fun v5 =>
  M.pure v5

def ctx_Base_l0 (v2 : List TPart) : Int × List TDot → M (M.Step (Int × List TDot) (List TDot)) := fun ⟨v19, v20⟩ =>
  cond ((decide (v19 < ((List.length v2) : Int))))
    (M.bind (M.idx v2 v19) fun x22 =>
    M.bind (M.det (runs_First x22.runs)) fun v24 =>
    M.need ((List.length v20 + List.length ([(⟨x22.dev, (IntKind.u64.wrap (v24 - 1))⟩ : TDot)])) * 16 ≤ 140737488355328) <|
    M.pure (.next (((IntKind.i64.wrap (v19 + 1)), (v20 ++ [(⟨x22.dev, (IntKind.u64.wrap (v24 - 1))⟩ : TDot)])))))
    (M.pure (.done v20))
/-- epitaph/ctx.Base -/
def ctx_Base (c1 : List TPart) : M (List TDot) :=
  M.bind (M.det (ctx_Norm c1)) fun v2 =>
  M.bind (M.loop (ctx_Base_l0 v2) (0, ([] : List TDot))) (fun v4 =>
  M.bind (M.det (vec_Norm v4)) fun v27 =>
  M.pure v27)

def r07_Same_l0 (a1 : List TDot) (b2 : List TDot) : Int → M (M.Step Int (M.Ex Unit Bool)) := fun i17 =>
  cond ((decide (i17 < (List.length a1 : Int))))
    (M.bind (M.idx a1 i17) fun x19 =>
    M.bind (M.idx b2 i17) fun x21 =>
    cond ((!(decide (x19.dev = x21.dev) && decide (x19.n = x21.n))))
      (M.pure (.done (.ret false)))
      (M.pure (.next (IntKind.i64.wrap (i17 + 1)))))
    (M.pure (.done (.brk ())))
/-- epitaph/epitaphref07.Same -/
def r07_Same (a1 : List TDot) (b2 : List TDot) : M Bool :=
  cond ((!decide ((List.length a1 : Int) = (List.length b2 : Int))))
    (M.pure false)
    (M.bind (M.loop (r07_Same_l0 a1 b2) 0) (M.exk (fun _ =>
    M.pure true)))

/-- epitaph/ctx.Runs -/
def ctx_Runs (c1 : List TPart) (dev2 : Int) : M (List TRun) :=
  M.bind (M.det (ctx_told c1)) fun v3 =>
  M.bind (M.det (runs_Norm (AL.getZ v3 dev2 ([] : List TRun)))) fun v6 =>
  M.pure v6

/-- epitaph/epitaphlaw09.works -/
def l09_works  : M Bool :=
  M.bind (M.det (ctx_Of ([(⟨1, 1⟩ : TDot), (⟨1, 2⟩ : TDot), (⟨1, 4⟩ : TDot), (⟨2, 2⟩ : TDot)]))) fun v1 =>
  M.bind (M.det (ctx_Add v1 ([(⟨1, 3⟩ : TDot)]))) fun v3 =>
  M.bind (cond ((decide ((List.length v1 : Int) = 2)))
    (M.bind (M.det (ctx_Base v1)) fun v7 =>
    M.bind (M.det (r07_Same v7 ([(⟨1, 2⟩ : TDot)]))) fun v9 =>
    cond v9
      (M.bind (M.det (ctx_Runs v3 1)) fun v12 =>
      M.pure ((decide (((List.length v12) : Int) = 1))))
      (M.pure false))
    (M.pure false)) (fun v5 =>
  M.pure v5)

/-- epitaph/runs.Has$1 -/
def runs_Has_c1 (x1 : TRun) (n2 : Int) : M Int :=
  M.bind (M.det (cmp_Compare_uint64 x1.hi n2)) fun v3 =>
  M.pure v3

def slices_BinarySearchFunc_sl_Run_Run_uint64_runs_Has_c1_l0 (x1 : List TRun) (target2 : Int) : Int × Int → M (M.Step (Int × Int) Int) := fun ⟨i18, j19⟩ =>
  cond (decide (i18 < j19))
    (M.bind (M.idx x1 ((IntKind.i64.wrap ((Int.fdiv ((IntKind.u64.wrap (IntKind.i64.wrap (i18 + j19)))) (2 ^ 1)))))) fun x21 =>
    M.bind (M.det (runs_Has_c1 x21 target2)) fun v23 =>
    cond (decide (v23 < 0))
      (M.pure (.next (((IntKind.i64.wrap (((IntKind.i64.wrap ((Int.fdiv ((IntKind.u64.wrap (IntKind.i64.wrap (i18 + j19)))) (2 ^ 1))))) + 1)), j19))))
      (M.pure (.next ((i18, (IntKind.i64.wrap ((Int.fdiv ((IntKind.u64.wrap (IntKind.i64.wrap (i18 + j19)))) (2 ^ 1)))))))))
    (M.pure (.done i18))
/-- slices.BinarySearchFunc[[]epitaph/api.Run,epitaph/api.Run,uint64] -/
def slices_BinarySearchFunc_sl_Run_Run_uint64_runs_Has_c1 (x1 : List TRun) (target2 : Int) : M (Int × Bool) :=
  M.bind (M.loop (slices_BinarySearchFunc_sl_Run_Run_uint64_runs_Has_c1_l0 x1 target2) (0, (List.length x1 : Int))) (fun i3 =>
  M.bind (cond ((decide (i3 < (List.length x1 : Int))))
    (M.bind (M.idx x1 i3) fun x28 =>
    M.bind (M.det (runs_Has_c1 x28 target2)) fun v30 =>
    M.pure (decide (v30 = 0)))
    (M.pure false)) (fun v26 =>
  M.pure (i3, v26)))

/-- epitaph/runs.Has -/
def runs_Has (l1 : List TRun) (n2 : Int) : M Bool :=
  M.bind (M.det (runs_Norm l1)) fun v3 =>
  M.bind (M.det (slices_BinarySearchFunc_sl_Run_Run_uint64_runs_Has_c1 v3 n2)) fun v5 =>
  M.bind (cond ((decide (v5.1 < (List.length v3 : Int))))
    (M.bind (M.idx v3 v5.1) fun x9 =>
    M.pure (decide (x9.lo ≤ n2)))
    (M.pure false)) (fun v7 =>
  M.pure v7)

/-- epitaph/ctx.Has -/
def ctx_Has (c1 : List TPart) (d2 : TDot) : M Bool :=
  M.bind (cond (decide (0 < d2.dev))
    (M.bind (M.det (ctx_Runs c1 d2.dev)) fun v5 =>
    M.bind (M.det (runs_Has v5 d2.n)) fun v7 =>
    M.pure v7)
    (M.pure false)) (fun v3 =>
  M.pure v3)

def r06_Eq_l0 (a1 : List TRun) (b2 : List TRun) : Int → M (M.Step Int (M.Ex Unit Bool)) := fun i17 =>
  cond ((decide (i17 < (List.length a1 : Int))))
    (M.bind (M.idx a1 i17) fun x19 =>
    M.bind (M.idx b2 i17) fun x21 =>
    cond ((!(decide (x19.lo = x21.lo) && decide (x19.hi = x21.hi))))
      (M.pure (.done (.ret false)))
      (M.pure (.next (IntKind.i64.wrap (i17 + 1)))))
    (M.pure (.done (.brk ())))
/-- epitaph/epitaphref06.Eq -/
def r06_Eq (a1 : List TRun) (b2 : List TRun) : M Bool :=
  cond ((!decide ((List.length a1 : Int) = (List.length b2 : Int))))
    (M.pure false)
    (M.bind (M.loop (r06_Eq_l0 a1 b2) 0) (M.exk (fun _ =>
    M.pure true)))

def r09_Eq_l0 (a1 : List TPart) (b2 : List TPart) : Int → M (M.Step Int (M.Ex Unit Bool)) := fun i33 =>
  cond ((decide (i33 < (List.length a1 : Int))))
    (M.bind (M.bind (M.idx a1 i33) fun x36 =>
    M.bind (M.idx b2 i33) fun x38 =>
    cond (!decide (x36.dev = x38.dev))
      (M.pure true)
      (M.bind (M.idx a1 i33) fun x41 =>
      M.bind (M.idx b2 i33) fun x43 =>
      M.bind (M.det (r06_Eq x41.runs x43.runs)) fun v45 =>
      M.pure (!v45))) (fun v35 =>
    cond v35
      (M.pure (.done (.ret false)))
      (M.pure (.next (IntKind.i64.wrap (i33 + 1))))))
    (M.pure (.done (.brk ())))
/-- epitaph/epitaphref09.Eq -/
def r09_Eq (a1 : List TPart) (b2 : List TPart) : M Bool :=
  cond ((!decide ((List.length a1 : Int) = (List.length b2 : Int))))
    (M.pure false)
    (M.bind (M.loop (r09_Eq_l0 a1 b2) 0) (M.exk (fun _ =>
    M.pure true)))

def runs_Meet_l0  : List TRun × List TRun × List TRun → M (M.Step (List TRun × List TRun × List TRun) (List TRun)) := fun ⟨a53, b54, out55⟩ =>
  M.bind (cond ((decide (0 < (List.length a53 : Int))))
    (M.pure ((decide (0 < (List.length b54 : Int)))))
    (M.pure false)) (fun v56 =>
  cond v56
    (M.bind (M.idx a53 0) fun x59 =>
    M.bind (M.idx b54 0) fun x61 =>
    M.bind (M.idx a53 0) fun x63 =>
    M.bind (M.idx b54 0) fun x65 =>
    M.bind (cond ((decide ((max x59.lo x61.lo) ≤ (min x63.hi x65.hi))))
      (M.need ((List.length out55 + List.length ([(⟨(max x59.lo x61.lo), (min x63.hi x65.hi)⟩ : TRun)])) * 16 ≤ 140737488355328) <|
      M.pure ((out55 ++ [(⟨(max x59.lo x61.lo), (min x63.hi x65.hi)⟩ : TRun)])))
      (M.pure out55)) (fun out67 =>
    M.bind (M.idx a53 0) fun x70 =>
    M.bind (M.idx b54 0) fun x72 =>
    cond (decide (x70.hi < x72.hi))
      (M.need ((0 : Int) ≤ 1 ∧ (1 : Int) ≤ (List.length a53 : Int) ∧ (List.length a53 : Int) ≤ (List.length a53 : Int)) <|
      M.pure (.next (((List.drop (Int.toNat 1) (List.take (Int.toNat (List.length a53 : Int)) a53)), b54, out67))))
      (M.need ((0 : Int) ≤ 1 ∧ (1 : Int) ≤ (List.length b54 : Int) ∧ (List.length b54 : Int) ≤ (List.length b54 : Int)) <|
      M.pure (.next ((a53, (List.drop (Int.toNat 1) (List.take (Int.toNat (List.length b54 : Int)) b54)), out67))))))
    (M.pure (.done out55)))
/-- epitaph/runs.Meet -/
def runs_Meet (a1 : List TRun) (b2 : List TRun) : M (List TRun) :=
  M.bind (M.det (runs_Norm a1)) fun v3 =>
  M.bind (M.det (runs_Norm b2)) fun v5 =>
  M.bind (M.loop runs_Meet_l0 (v3, v5, ([] : List TRun))) (fun out7 =>
  M.pure out7)

def runs_rest_l0 (v2 : List TRun) : Int × Int × List TRun → M (M.Step (Int × Int × List TRun) (Int × List TRun)) := fun ⟨at17, v18, out19⟩ =>
  cond ((decide (v18 < ((List.length v2) : Int))))
    (M.bind (M.idx v2 v18) fun x21 =>
    M.need ((List.length out19 + List.length ([(⟨at17, (IntKind.u64.wrap (x21.lo - 1))⟩ : TRun)])) * 16 ≤ 140737488355328) <|
    M.pure (.next (((IntKind.u64.wrap (x21.hi + 1)), (IntKind.i64.wrap (v18 + 1)), (out19 ++ [(⟨at17, (IntKind.u64.wrap (x21.lo - 1))⟩ : TRun)])))))
    (M.pure (.done (at17, out19)))
/-- epitaph/runs.rest -/
def runs_rest (l1 : List TRun) : M (List TRun) :=
  M.bind (M.det (runs_Norm l1)) fun v2 =>
  M.bind (M.loop (runs_rest_l0 v2) (1, 0, ([] : List TRun))) (fun ⟨at4, out5⟩ =>
  M.need ((List.length out5 + List.length ([(⟨at4, 281474976710655⟩ : TRun)])) * 16 ≤ 140737488355328) <|
  M.pure (out5 ++ [(⟨at4, 281474976710655⟩ : TRun)]))

/-- epitaph/runs.Minus -/
def runs_Minus (a1 : List TRun) (b2 : List TRun) : M (List TRun) :=
  M.bind (M.det (runs_rest b2)) fun v3 =>
  M.bind (M.det (runs_Meet a1 v3)) fun v5 =>
  M.pure v5

def ctx_each_runs_Minus_l0 (v6 : List (Int × List TRun)) : List Nat × (List (Int × List TRun)) → M (M.Step (List Nat × (List (Int × List TRun))) (List (Int × List TRun))) := fun ⟨seen32, v33⟩ =>
  M.need (∀ i ∈ seen32, i < List.length v33) <| M.bind (M.nxt (List.length v33) seen32) fun o => match o with
  | none =>
    M.pure (.done v33)
  | some j34 =>
    M.bind (M.idx v33 (Int.ofNat j34)) fun kv38 =>
    M.bind (M.det (runs_Minus kv38.2 (AL.getZ v6 kv38.1 ([] : List TRun)))) fun v40 =>
    M.need (AL.has v33 kv38.1 = true) <|
    M.pure (.next ((seen32 ++ [j34]), (AL.set v33 kv38.1 v40)))
/-- epitaph/ctx.each -/
def ctx_each_runs_Minus (a1 : List TPart) (b2 : List TPart) : M (List TPart) :=
  M.bind (M.det (ctx_told a1)) fun v3 =>
  M.bind (M.det (ctx_told b2)) fun v6 =>
  M.bind (M.loop (ctx_each_runs_Minus_l0 v6) ([], v3)) (fun v9 =>
  M.bind (M.det (ctx_order v9)) fun v44 =>
  M.pure v44)

/-- epitaph/ctx.Minus -/
def ctx_Minus (a1 : List TPart) (b2 : List TPart) : M (List TPart) :=
  M.bind (M.det (ctx_each_runs_Minus a1 b2)) fun v3 =>
  M.pure v3

/-- epitaph/ctx.Within -/
def ctx_Within (a1 : List TPart) (b2 : List TPart) : M Bool :=
  M.bind (M.det (ctx_Minus a1 b2)) fun v3 =>
  M.pure ((decide (((List.length v3) : Int) = 0)))

def ctx_Plain_l0 (v2 : List TDot) : Int × List TPart → M (M.Step (Int × List TPart) (List TPart)) := fun ⟨v15, c16⟩ =>
  cond ((decide (v15 < ((List.length v2) : Int))))
    (M.bind (M.idx v2 v15) fun x18 =>
    M.need ((List.length c16 + List.length ([(⟨x18.dev, [(⟨1, x18.n⟩ : TRun)]⟩ : TPart)])) * 32 ≤ 140737488355328) <|
    M.pure (.next (((IntKind.i64.wrap (v15 + 1)), (c16 ++ [(⟨x18.dev, [(⟨1, x18.n⟩ : TRun)]⟩ : TPart)])))))
    (M.pure (.done c16))
/-- epitaph/ctx.Plain -/
def ctx_Plain (v1 : List TDot) : M (List TPart) :=
  M.bind (M.det (vec_Norm v1)) fun v2 =>
  M.bind (M.loop (ctx_Plain_l0 v2) (0, ([] : List TPart))) (fun c4 =>
  M.pure c4)

def l09_CtxCloses_l0 (l1 : List TDot) (from2 : Int) : List TPart × List TPart × Int → M (M.Step (List TPart × List TPart × Int) (List TPart × List TPart)) := fun ⟨a31, b32, i33⟩ =>
  cond ((decide (i33 < (List.length l1 : Int))))
    (M.bind (M.idx l1 i33) fun x35 =>
    M.bind (M.det (ctx_Add a31 ([x35]))) fun v37 =>
    M.need ((List.length l1 : Int) ≠ 0) <|
    M.bind (M.idx l1 ((Int.tmod ((IntKind.i64.wrap (((IntKind.i64.wrap (((IntKind.i64.wrap ((List.length l1 : Int) - 1))) - i33))) + (IntKind.i64.wrap from2)))) (List.length l1 : Int)))) fun x40 =>
    M.bind (M.det (ctx_Add b32 ([x40]))) fun v42 =>
    M.pure (.next ((v37, v42, (IntKind.i64.wrap (i33 + 1))))))
    (M.pure (.done (a31, b32)))
def l09_CtxCloses_l1 (v44 : List TDot) (a6 : List TPart) : Int → M (M.Step Int (M.Ex Unit Bool)) := fun i75 =>
  cond ((decide (i75 < ((List.length v44) : Int))))
    (M.bind (M.idx v44 i75) fun x77 =>
    M.bind (M.idx v44 i75) fun x79 =>
    M.bind (M.bind (M.det (ctx_Has a6 ((⟨x77.dev, (IntKind.u64.wrap (x79.n + 1))⟩ : TDot)))) fun v82 =>
    cond v82
      (M.pure true)
      (M.bind (M.idx v44 i75) fun x85 =>
      M.bind (M.det (ctx_Has a6 x85)) fun v87 =>
      M.pure (!v87))) (fun v81 =>
    cond v81
      (M.pure (.done (.ret false)))
      (M.pure (.next (IntKind.i64.wrap (i75 + 1))))))
    (M.pure (.done (.brk ())))
/-- epitaph/epitaphlaw09.CtxCloses -/
def l09_CtxCloses (l1 : List TDot) (from2 : Int) : M Bool :=
  cond ((decide (60 < (List.length l1 : Int))))
    (M.bind (M.det (l09_works)) fun v4 =>
    M.pure v4)
    (M.bind (M.loop (l09_CtxCloses_l0 l1 from2) (([] : List TPart), ([] : List TPart), 0)) (fun ⟨a6, b7⟩ =>
    M.bind (M.det (ctx_Base a6)) fun v44 =>
    M.bind (M.loop (l09_CtxCloses_l1 v44 a6) 0) (M.exk (fun _ =>
    M.bind (M.bind (M.det (r09_Eq a6 b7)) fun v91 =>
    cond v91
      (M.bind (M.det (ctx_Of l1)) fun v94 =>
      M.bind (M.det (r09_Eq v94 a6)) fun v96 =>
      cond v96
        (M.bind (M.det (ctx_Plain v44)) fun v99 =>
        M.bind (M.det (ctx_Within v99 a6)) fun v101 =>
        cond v101
          (M.bind (M.det (ctx_Plain v44)) fun v104 =>
          M.bind (M.det (ctx_Base v104)) fun v106 =>
          M.bind (M.det (r07_Same v106 v44)) fun v108 =>
          cond v108
            (M.bind (M.det (l09_works)) fun v111 =>
            M.pure v111)
            (M.pure false))
          (M.pure false))
        (M.pure false))
      (M.pure false)) (fun v90 =>
    M.pure v90)))))

def ctx_each_runs_Meet_l0 (v6 : List (Int × List TRun)) : List Nat × (List (Int × List TRun)) → M (M.Step (List Nat × (List (Int × List TRun))) (List (Int × List TRun))) := fun ⟨seen32, v33⟩ =>
  M.need (∀ i ∈ seen32, i < List.length v33) <| M.bind (M.nxt (List.length v33) seen32) fun o => match o with
  | none =>
    M.pure (.done v33)
  | some j34 =>
    M.bind (M.idx v33 (Int.ofNat j34)) fun kv38 =>
    M.bind (M.det (runs_Meet kv38.2 (AL.getZ v6 kv38.1 ([] : List TRun)))) fun v40 =>
    M.need (AL.has v33 kv38.1 = true) <|
    M.pure (.next ((seen32 ++ [j34]), (AL.set v33 kv38.1 v40)))
/-- epitaph/ctx.each -/
def ctx_each_runs_Meet (a1 : List TPart) (b2 : List TPart) : M (List TPart) :=
  M.bind (M.det (ctx_told a1)) fun v3 =>
  M.bind (M.det (ctx_told b2)) fun v6 =>
  M.bind (M.loop (ctx_each_runs_Meet_l0 v6) ([], v3)) (fun v9 =>
  M.bind (M.det (ctx_order v9)) fun v44 =>
  M.pure v44)

/-- epitaph/ctx.Meet -/
def ctx_Meet (a1 : List TPart) (b2 : List TPart) : M (List TPart) :=
  M.bind (M.det (ctx_each_runs_Meet a1 b2)) fun v3 =>
  M.pure v3

/-- epitaph/runs.Size -/
def runs_SizeL (l : List TRun) : Int := List.foldl (fun n x => IntKind.u64.wrap (n + IntKind.u64.wrap (IntKind.u64.wrap (x.hi - x.lo) + 1))) 0 l
def runs_Size (l1 : List TRun) : M Int :=
  M.bind (M.det (runs_Norm l1)) fun l2 => M.pure (runs_SizeL l2)

def ctx_Size_l0 (v2 : List TPart) : Int × Int → M (M.Step (Int × Int) Int) := fun ⟨n17, v18⟩ =>
  cond ((decide (v18 < ((List.length v2) : Int))))
    (M.bind (M.idx v2 v18) fun x20 =>
    M.bind (M.det (runs_Size x20.runs)) fun v22 =>
    M.pure (.next (((IntKind.u64.wrap (n17 + v22)), (IntKind.i64.wrap (v18 + 1))))))
    (M.pure (.done n17))
/-- epitaph/ctx.Size -/
def ctx_Size (c1 : List TPart) : M Int :=
  M.bind (M.det (ctx_Norm c1)) fun v2 =>
  M.bind (M.loop (ctx_Size_l0 v2) (0, 0)) (fun n4 =>
  M.pure n4)

def slices_Equal_sl_Run_Run_l0 (s1_1 : List TRun) (s2_2 : List TRun) : Int → M (M.Step Int (M.Ex Unit Bool)) := fun v17 =>
  cond ((decide (v17 < (List.length s1_1 : Int))))
    (M.bind (M.idx s1_1 v17) fun x19 =>
    M.bind (M.idx s2_2 v17) fun x21 =>
    cond ((!(decide (x19.lo = x21.lo) && decide (x19.hi = x21.hi))))
      (M.pure (.done (.ret false)))
      (M.pure (.next (IntKind.i64.wrap (v17 + 1)))))
    (M.pure (.done (.brk ())))
/-- slices.Equal[[]epitaph/api.Run,epitaph/api.Run] -/
def slices_Equal_sl_Run_Run (s1_1 : List TRun) (s2_2 : List TRun) : M Bool :=
  cond ((!decide ((List.length s1_1 : Int) = (List.length s2_2 : Int))))
    (M.pure false)
    (M.bind (M.loop (slices_Equal_sl_Run_Run_l0 s1_1 s2_2) 0) (M.exk (fun _ =>
    M.pure true)))

/-- epitaph/ctx.eq$1 -/
def ctx_eq_c1 (x1 : TPart) (y2 : TPart) : M Bool :=
  M.bind (cond (decide (x1.dev = y2.dev))
    (M.bind (M.det (slices_Equal_sl_Run_Run x1.runs y2.runs)) fun v5 =>
    M.pure v5)
    (M.pure false)) (fun v3 =>
  M.pure v3)

def slices_EqualFunc_Ctx_Ctx_Part_Part_ctx_eq_c1_l0 (s1_1 : List TPart) (s2_2 : List TPart) : Int → M (M.Step Int (M.Ex Unit Bool)) := fun v21 =>
  cond ((decide (v21 < (List.length s1_1 : Int))))
    (M.bind (M.idx s1_1 v21) fun x23 =>
    M.bind (M.idx s2_2 v21) fun x25 =>
    M.bind (M.det (ctx_eq_c1 x23 x25)) fun v27 =>
    cond (!v27)
      (M.pure (.done (.ret false)))
      (M.pure (.next (IntKind.i64.wrap (v21 + 1)))))
    (M.pure (.done (.brk ())))
/-- slices.EqualFunc[epitaph/api.Ctx,epitaph/api.Ctx,epitaph/api.Part,epitaph/api.Part] -/
def slices_EqualFunc_Ctx_Ctx_Part_Part_ctx_eq_c1 (s1_1 : List TPart) (s2_2 : List TPart) : M Bool :=
  cond ((!decide ((List.length s1_1 : Int) = (List.length s2_2 : Int))))
    (M.pure false)
    (M.bind (M.loop (slices_EqualFunc_Ctx_Ctx_Part_Part_ctx_eq_c1_l0 s1_1 s2_2) 0) (M.exk (fun _ =>
    M.pure true)))

/-- epitaph/ctx.eq -/
def ctx_eq (a1 : List TPart) (b2 : List TPart) : M Bool :=
  M.bind (M.det (slices_EqualFunc_Ctx_Ctx_Part_Part_ctx_eq_c1 a1 b2)) fun v3 =>
  M.pure v3

/-- epitaph/ctx.Same -/
def ctx_Same (a1 : List TPart) (b2 : List TPart) : M Bool :=
  M.bind (M.det (ctx_Norm a1)) fun v3 =>
  M.bind (M.det (ctx_Norm b2)) fun v5 =>
  M.bind (M.det (ctx_eq v3 v5)) fun v7 =>
  M.pure v7

/-- epitaph/ctx.Good -/
def ctx_Good (c1 : List TPart) : M Bool :=
  M.bind (M.det (ctx_Norm c1)) fun v2 =>
  M.bind (M.det (ctx_eq c1 v2)) fun v4 =>
  M.pure v4

/-- epitaph/epitaphlaw09.CtxLaws -/
def l09_CtxLaws (a1 : List TPart) (b2 : List TPart) (d3 : TDot) : M Bool :=
  M.bind (M.det (ctx_Join a1 b2)) fun v4 =>
  M.bind (M.det (ctx_Meet a1 b2)) fun v6 =>
  M.bind (M.det (ctx_Minus a1 b2)) fun v8 =>
  M.bind (M.bind (M.det (ctx_Has v4 d3)) fun v11 =>
  M.bind (M.det (ctx_Has a1 d3)) fun v13 =>
  cond v13
    (cond (!(v11 == true))
      (M.pure true)
      (M.bind (M.det (ctx_Has v6 d3)) fun v17 =>
      M.bind (M.det (ctx_Has a1 d3)) fun v19 =>
      cond v19
        (M.bind (M.det (ctx_Has b2 d3)) fun v22 =>
        cond (!(v17 == v22))
          (M.pure true)
          (M.bind (M.det (ctx_Has v8 d3)) fun v25 =>
          M.bind (M.det (ctx_Has a1 d3)) fun v27 =>
          cond v27
            (M.bind (M.det (ctx_Has b2 d3)) fun v30 =>
            M.pure ((!(v25 == (!v30)))))
            (M.pure (!(v25 == false)))))
        (cond (!(v17 == false))
          (M.pure true)
          (M.bind (M.det (ctx_Has v8 d3)) fun v33 =>
          M.bind (M.det (ctx_Has a1 d3)) fun v35 =>
          cond v35
            (M.bind (M.det (ctx_Has b2 d3)) fun v38 =>
            M.pure ((!(v33 == (!v38)))))
            (M.pure (!(v33 == false)))))))
    (M.bind (M.det (ctx_Has b2 d3)) fun v40 =>
    cond (!(v11 == v40))
      (M.pure true)
      (M.bind (M.det (ctx_Has v6 d3)) fun v43 =>
      M.bind (M.det (ctx_Has a1 d3)) fun v45 =>
      cond v45
        (M.bind (M.det (ctx_Has b2 d3)) fun v48 =>
        cond (!(v43 == v48))
          (M.pure true)
          (M.bind (M.det (ctx_Has v8 d3)) fun v51 =>
          M.bind (M.det (ctx_Has a1 d3)) fun v53 =>
          cond v53
            (M.bind (M.det (ctx_Has b2 d3)) fun v56 =>
            M.pure ((!(v51 == (!v56)))))
            (M.pure (!(v51 == false)))))
        (cond (!(v43 == false))
          (M.pure true)
          (M.bind (M.det (ctx_Has v8 d3)) fun v59 =>
          M.bind (M.det (ctx_Has a1 d3)) fun v61 =>
          cond v61
            (M.bind (M.det (ctx_Has b2 d3)) fun v64 =>
            M.pure ((!(v59 == (!v64)))))
            (M.pure (!(v59 == false)))))))) (fun v10 =>
  cond v10
    (M.pure false)
    (M.bind (M.bind (M.det (ctx_Size v4)) fun v68 =>
    M.bind (M.det (ctx_Size v6)) fun v70 =>
    M.bind (M.det (ctx_Size a1)) fun v72 =>
    M.bind (M.det (ctx_Size b2)) fun v74 =>
    cond ((decide ((IntKind.u64.wrap (v68 + v70)) = (IntKind.u64.wrap (v72 + v74)))))
      (M.bind (M.det (ctx_Join b2 a1)) fun v77 =>
      M.bind (M.det (r09_Eq v77 v4)) fun v79 =>
      cond v79
        (M.bind (M.det (ctx_Meet b2 a1)) fun v82 =>
        M.bind (M.det (r09_Eq v82 v6)) fun v84 =>
        cond v84
          (M.bind (M.det (ctx_Join v8 v6)) fun v87 =>
          M.bind (M.det (ctx_Same v87 a1)) fun v89 =>
          cond v89
            (M.bind (M.det (ctx_Within v6 b2)) fun v92 =>
            cond v92
              (M.bind (M.det (ctx_Within b2 v4)) fun v95 =>
              cond v95
                (M.bind (M.det (ctx_Good v4)) fun v98 =>
                cond v98
                  (M.bind (M.det (ctx_Good v8)) fun v101 =>
                  cond v101
                    (M.bind (M.det (l09_works)) fun v104 =>
                    M.pure v104)
                    (M.pure false))
                  (M.pure false))
                (M.pure false))
              (M.pure false))
            (M.pure false))
          (M.pure false))
        (M.pure false))
      (M.pure false)) (fun v67 =>
    M.pure v67)))
end Go.Ep
