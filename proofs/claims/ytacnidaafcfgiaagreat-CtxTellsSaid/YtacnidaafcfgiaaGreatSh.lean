/- What the functions compute, plainly: written by program. -/
import Derived.Test.YtacnidaafcfgiaaGreatLt
namespace Go.Ep
open Go

def r09_Few_l0 (c1 : List TPart) : Int → M (M.Step Int (M.Ex Unit Bool)) := fun i12 =>
  cond ((decide (i12 < (List.length c1 : Int))))
    (M.bind (M.idx c1 i12) fun x14 =>
    cond ((decide (30 < (List.length x14.runs : Int))))
      (M.pure (.done (.ret false)))
      (M.pure (.next (IntKind.i64.wrap (i12 + 1)))))
    (M.pure (.done (.brk ())))
/-- epitaph/epitaphref09.Few -/
def r09_Few (c1 : List TPart) : M Bool :=
  cond ((decide (30 < (List.length c1 : Int))))
    (M.pure false)
    (M.bind (M.loop (r09_Few_l0 c1) 0) (M.exk (fun _ =>
    M.pure true)))

/-- cmp.isNaN[uint64] -/
def cmp_isNaN_uint64 (x1 : Int) : M Bool :=
  M.pure (!decide (x1 = x1))

/-- cmp.Compare[uint64] -/
def cmp_Compare_uint64 (x1 : Int) (y2 : Int) : M Int :=
  M.bind (M.det (cmp_isNaN_uint64 x1)) fun v3 =>
  M.bind (M.det (cmp_isNaN_uint64 y2)) fun v5 =>
  cond v3
    (cond v5
      (M.pure 0)
      (M.pure (-1)))
    (cond v5
      (M.pure 1)
      (cond (decide (x1 < y2))
        (M.pure (-1))
        (cond (decide (y2 < x1))
          (M.pure 1)
          (M.pure 0))))

/-- epitaph/runs.Norm$1 -/
def runs_Norm_c1 (a1 : TRun) (b2 : TRun) : M Int :=
  M.bind (M.det (cmp_Compare_uint64 a1.lo b2.lo)) fun v3 =>
  M.pure v3

def runs_Norm_l0 (l1 : List TRun) : Int × List TRun → M (M.Step (Int × List TRun) (List TRun)) := fun ⟨v23, some24⟩ =>
  cond ((decide (v23 < (List.length l1 : Int))))
    (M.bind (M.bind (M.idx l1 v23) fun x27 =>
    M.bind (cond (decide (0 < x27.lo))
      (cond (decide (x27.lo ≤ x27.hi))
        (M.pure (decide (x27.hi ≤ 281474976710655)))
        (M.pure false))
      (M.pure false)) (fun v29 =>
    cond v29
      (M.need ((List.length some24 + List.length ([x27])) * 16 ≤ 140737488355328) <|
      M.pure (some24 ++ [x27]))
      (M.pure some24))) (fun some26 =>
    M.pure (.next (((IntKind.i64.wrap (v23 + 1)), some26)))))
    (M.pure (.done some24))
def runs_Norm_l1 (some2 : List TRun) (s34 : List TRun) : Int × List TRun → M (M.Step (Int × List TRun) (List TRun)) := fun ⟨v69, out70⟩ =>
  cond ((decide (v69 < ((List.length some2) : Int))))
    (M.bind (M.bind (M.idx s34 v69) fun x73 =>
    M.bind (cond ((decide (0 ≤ ((IntKind.i64.wrap (((List.length out70) : Int) - 1))))))
      (M.bind (M.idx out70 ((IntKind.i64.wrap (((List.length out70) : Int) - 1)))) fun x77 =>
      M.pure ((decide (x73.lo ≤ (IntKind.u64.wrap (x77.hi + 1))))))
      (M.pure false)) (fun v75 =>
    cond v75
      (M.bind (M.idx out70 ((IntKind.i64.wrap (((List.length out70) : Int) - 1)))) fun x80 =>
      M.bind (M.idx out70 ((IntKind.i64.wrap (((List.length out70) : Int) - 1)))) fun x82 =>
      M.pure ((List.set out70 ((Int.toNat ((IntKind.i64.wrap (((List.length out70) : Int) - 1))))) (⟨x82.lo, (max x80.hi x73.hi)⟩ : TRun))))
      (M.need ((List.length out70 + List.length ([x73])) * 16 ≤ 140737488355328) <|
      M.pure (out70 ++ [x73])))) (fun out72 =>
    M.pure (.next (((IntKind.i64.wrap (v69 + 1)), out72)))))
    (M.pure (.done out70))
/-- epitaph/runs.Norm -/
def runs_Norm (l1 : List TRun) : M (List TRun) :=
  M.bind (M.loop (runs_Norm_l0 l1) (0, ([] : List TRun))) (fun some2 =>
  M.need (List.length some2 < 4611686018427387904) <| M.bind (M.srt ltRun some2) fun s34 =>
  M.bind (M.loop (runs_Norm_l1 some2 s34) (0, ([] : List TRun))) (fun out38 =>
  M.pure out38))

/-- cmp.isNaN[uint16] -/
def cmp_isNaN_uint16 (x1 : Int) : M Bool :=
  M.pure (!decide (x1 = x1))

/-- cmp.Compare[uint16] -/
def cmp_Compare_uint16 (x1 : Int) (y2 : Int) : M Int :=
  M.bind (M.det (cmp_isNaN_uint16 x1)) fun v3 =>
  M.bind (M.det (cmp_isNaN_uint16 y2)) fun v5 =>
  cond v3
    (cond v5
      (M.pure 0)
      (M.pure (-1)))
    (cond v5
      (M.pure 1)
      (cond (decide (x1 < y2))
        (M.pure (-1))
        (cond (decide (y2 < x1))
          (M.pure 1)
          (M.pure 0))))

/-- epitaph/ctx.order$1 -/
def ctx_order_c1 (a1 : TPart) (b2 : TPart) : M Int :=
  M.bind (M.det (cmp_Compare_uint16 a1.dev b2.dev)) fun v3 =>
  M.pure v3

def ctx_order_l0 (m1 : List (Int × List TRun)) : List Nat × List TPart → M (M.Step (List Nat × List TPart) (List TPart)) := fun ⟨seen28, c29⟩ =>
  M.need (∀ i ∈ seen28, i < List.length m1) <| M.bind (M.nxt (List.length m1) seen28) fun o => match o with
  | none =>
    M.pure (.done c29)
  | some j30 =>
    M.bind (M.idx m1 (Int.ofNat j30)) fun kv34 =>
    M.bind (M.det (runs_Norm kv34.2)) fun v36 =>
    cond ((decide (0 < ((List.length v36) : Int))))
      (M.need ((List.length c29 + List.length ([(⟨kv34.1, v36⟩ : TPart)])) * 32 ≤ 140737488355328) <|
      M.pure (.next (((seen28 ++ [j30]), (c29 ++ [(⟨kv34.1, v36⟩ : TPart)])))))
      (M.pure (.next ((seen28 ++ [j30]), c29)))
/-- epitaph/ctx.order -/
def ctx_order (m1 : List (Int × List TRun)) : M (List TPart) :=
  M.bind (M.loop (ctx_order_l0 m1) ([], ([] : List TPart))) (fun c3 =>
  M.need (List.length c3 < 4611686018427387904) <| M.bind (M.srt ltPart c3) fun s41 =>
  M.pure s41)

/-- epitaph/dot.Good -/
def dot_Good (d1 : TDot) : M Bool :=
  M.bind (cond (decide (0 < d1.dev))
    (cond (decide (0 < d1.n))
      (M.pure (decide (d1.n ≤ 281474976710655)))
      (M.pure false))
    (M.pure false)) (fun v2 =>
  M.pure v2)

def dot_GoodB (d : TDot) : Bool := decide (0 < d.dev) && (decide (0 < d.n) && decide (d.n ≤ 281474976710655))
theorem dot_GoodB_eq (d : TDot) : dot_Good d = M.pure (dot_GoodB d) := by
  unfold dot_Good dot_GoodB
  rw [M.cond_pure_and, M.cond_pure_and]; rfl
def ctx_OfF (d : TDot) : Option (Int × List TRun) := if dot_GoodB d then some (d.dev, [⟨d.n, d.n⟩]) else none
/-- epitaph/ctx.Of -/
def ctx_Of (l1 : List TDot) : M (List TPart) :=
  M.need (AL.growOK 16 (List.length l1) (List.filterMap ctx_OfF l1)) <|
  M.bind (M.det (ctx_order ((AL.grow ([] : List (Int × List TRun)) (List.filterMap ctx_OfF l1))))) fun v17 =>
  M.pure v17

def ctx_toldF (p : TPart) : Option (Int × List TRun) := if 0 < p.dev then some (p.dev, p.runs) else none
/-- epitaph/ctx.told -/
def ctx_told (c1 : List TPart) : M (List (Int × List TRun)) :=
  M.need (AL.growOK 16 (List.length c1) (List.filterMap ctx_toldF c1)) <|
  M.pure ((AL.grow ([] : List (Int × List TRun)) (List.filterMap ctx_toldF c1)))

/-- epitaph/ctx.Runs -/
def ctx_Runs (c1 : List TPart) (dev2 : Int) : M (List TRun) :=
  M.bind (M.det (ctx_told c1)) fun v3 =>
  M.bind (M.det (runs_Norm (AL.getZ v3 dev2 ([] : List TRun)))) fun v6 =>
  M.pure v6

/-- epitaph/ctx.Norm -/
def ctx_Norm (c1 : List TPart) : M (List TPart) :=
  M.bind (M.det (ctx_told c1)) fun v2 =>
  M.bind (M.det (ctx_order v2)) fun v5 =>
  M.pure v5

/-- slices.Grow[epitaph/api.Ctx,epitaph/api.Part] -/
def slices_Grow_Ctx_Part_nil (n1 : Int) : M (List TPart) :=
  cond (decide (n1 < 0))
    M.fail
    (M.bind (cond ((decide (0 < ((IntKind.i64.wrap (n1 - (IntKind.i64.wrap (0 - 0))))))))
      (M.need (0 < ((IntKind.i64.wrap (n1 - (IntKind.i64.wrap (0 - 0))))) ∧ ((IntKind.i64.wrap (n1 - (IntKind.i64.wrap (0 - 0))))) * 32 ≤ 140737488355328) <|
      M.need ((0 : Int) ≤ 0 ∧ (0 : Int) ≤ 0 ∧ 0 ≤ (List.length ((List.replicate (Int.toNat ((IntKind.i64.wrap (n1 - (IntKind.i64.wrap (0 - 0)))))) (⟨0, ([] : List TRun)⟩ : TPart))) : Int)) <|
      M.pure ((List.take (Int.toNat 0) ((List.replicate (Int.toNat ((IntKind.i64.wrap (n1 - (IntKind.i64.wrap (0 - 0)))))) (⟨0, ([] : List TRun)⟩ : TPart))))))
      (M.pure ([]))) (fun v3 =>
    M.pure v3))

def slices_Concat_Ctx_Part_l0 (slices1 : List (List TPart)) : Int × Int → M (M.Step (Int × Int) Int) := fun ⟨size13, v14⟩ =>
  cond ((decide (v14 < (List.length slices1 : Int))))
    (M.bind (M.idx slices1 v14) fun x16 =>
    cond ((decide (((IntKind.i64.wrap (size13 + (List.length x16 : Int)))) < 0)))
      M.fail
      (M.pure (.next (((IntKind.i64.wrap (size13 + (List.length x16 : Int))), (IntKind.i64.wrap (v14 + 1)))))))
    (M.pure (.done size13))
def slices_Concat_Ctx_Part_l1 (slices1 : List (List TPart)) : Int × List TPart → M (M.Step (Int × List TPart) (List TPart)) := fun ⟨v32, v33⟩ =>
  cond ((decide (v32 < (List.length slices1 : Int))))
    (M.bind (M.idx slices1 v32) fun x35 =>
    M.need ((List.length v33 + List.length x35) * 32 ≤ 140737488355328) <|
    M.pure (.next (((IntKind.i64.wrap (v32 + 1)), (v33 ++ x35)))))
    (M.pure (.done v33))
/-- slices.Concat[epitaph/api.Ctx,epitaph/api.Part] -/
def slices_Concat_Ctx_Part (slices1 : List (List TPart)) : M (List TPart) :=
  M.bind (M.loop (slices_Concat_Ctx_Part_l0 slices1) (0, 0)) (fun size2 =>
  M.bind (M.det (slices_Grow_Ctx_Part_nil size2)) fun v19 =>
  M.bind (M.loop (slices_Concat_Ctx_Part_l1 slices1) (0, v19)) (fun v21 =>
  M.pure v21))

/-- epitaph/ctx.Join -/
def ctx_Join (a1 : List TPart) (b2 : List TPart) : M (List TPart) :=
  M.bind (M.det (slices_Concat_Ctx_Part ([a1, b2]))) fun v3 =>
  M.bind (M.det (ctx_Norm v3)) fun v5 =>
  M.pure v5

/-- epitaph/ctx.Add -/
def ctx_Add (c1 : List TPart) (l2 : List TDot) : M (List TPart) :=
  M.bind (M.det (ctx_Of l2)) fun v3 =>
  M.bind (M.det (ctx_Join c1 v3)) fun v5 =>
  M.pure v5

def r07_Same_l0 (a1 : List TDot) (b2 : List TDot) : Int → M (M.Step Int (M.Ex Unit Bool)) := fun i17 =>
  cond ((decide (i17 < (List.length a1 : Int))))
    (M.bind (M.idx a1 i17) fun x19 =>
    M.bind (M.idx b2 i17) fun x21 =>
    cond ((!(decide (x19.dev = x21.dev) && decide (x19.n = x21.n))))
      (M.pure (.done (.ret false)))
      (M.pure (.next (IntKind.i64.wrap (i17 + 1)))))
    (M.pure (.done (.brk ())))
/-- epitaph/epitaphref07.Same -/
def r07_Same (a1 : List TDot) (b2 : List TDot) : M Bool :=
  cond ((!decide ((List.length a1 : Int) = (List.length b2 : Int))))
    (M.pure false)
    (M.bind (M.loop (r07_Same_l0 a1 b2) 0) (M.exk (fun _ =>
    M.pure true)))

/-- epitaph/runs.First -/
def runs_First (l1 : List TRun) : M Int :=
  M.bind (M.det (runs_Norm l1)) fun v2 =>
  M.bind (cond ((decide (0 < ((List.length v2) : Int))))
    (M.bind (M.idx v2 0) fun x6 =>
    M.pure (decide (x6.lo = 1)))
    (M.pure false)) (fun v4 =>
  cond v4
    (M.bind (M.idx v2 0) fun x9 =>
    M.pure (IntKind.u64.wrap (x9.hi + 1)))
    (M.pure 1))

/-- epitaph/dot.Cmp -/
def dot_Cmp (a1 : TDot) (b2 : TDot) : M Int :=
  M.bind (M.det (cmp_Compare_uint16 a1.dev b2.dev)) fun v3 =>
  cond (!decide (v3 = 0))
    (M.pure v3)
    (M.bind (M.det (cmp_Compare_uint64 a1.n b2.n)) fun v6 =>
    M.pure v6)

def vec_order_l0 (m1 : List (Int × Int)) : List Nat × List TDot → M (M.Step (List Nat × List TDot) (List TDot)) := fun ⟨seen24, v25⟩ =>
  M.need (∀ i ∈ seen24, i < List.length m1) <| M.bind (M.nxt (List.length m1) seen24) fun o => match o with
  | none =>
    M.pure (.done v25)
  | some j26 =>
    M.bind (M.idx m1 (Int.ofNat j26)) fun kv30 =>
    cond (decide (0 < kv30.2))
      (M.need ((List.length v25 + List.length ([(⟨kv30.1, kv30.2⟩ : TDot)])) * 16 ≤ 140737488355328) <|
      M.pure (.next (((seen24 ++ [j26]), (v25 ++ [(⟨kv30.1, kv30.2⟩ : TDot)])))))
      (M.pure (.next ((seen24 ++ [j26]), v25)))
/-- epitaph/vec.order -/
def vec_order (m1 : List (Int × Int)) : M (List TDot) :=
  M.bind (M.loop (vec_order_l0 m1) ([], ([] : List TDot))) (fun v3 =>
  M.need (List.length v3 < 4611686018427387904) <| M.bind (M.srt ltDot v3) fun s35 =>
  M.pure s35)

def vec_told_l0 (v1 : List TDot) : Int × (List (Int × Int)) → M (M.Step (Int × (List (Int × Int))) (List (Int × Int))) := fun ⟨v27, v28⟩ =>
  cond ((decide (v27 < (List.length v1 : Int))))
    (M.bind (M.bind (M.idx v1 v27) fun x35 =>
    M.bind (M.det (dot_Good x35)) fun v37 =>
    cond v37
      (M.pure ((AL.set v28 x35.dev (max (AL.getZ v28 x35.dev 0) x35.n))))
      (M.pure v28)) (fun v32 =>
    M.pure (.next (((IntKind.i64.wrap (v27 + 1)), v32)))))
    (M.pure (.done v28))
/-- epitaph/vec.told -/
def vec_told (v1 : List TDot) : M (List (Int × Int)) :=
  M.bind (M.loop (vec_told_l0 v1) ((0, ([] : List (Int × Int))))) (fun v2 =>
  M.pure v2)

/-- epitaph/vec.Norm -/
def vec_Norm (v1 : List TDot) : M (List TDot) :=
  M.bind (M.det (vec_told v1)) fun v2 =>
  M.bind (M.det (vec_order v2)) fun v5 =>
  M.pure v5

def ctx_Base_l0 (v2 : List TPart) : Int × List TDot → M (M.Step (Int × List TDot) (List TDot)) := fun ⟨v19, v20⟩ =>
  cond ((decide (v19 < ((List.length v2) : Int))))
    (M.bind (M.idx v2 v19) fun x22 =>
    M.bind (M.det (runs_First x22.runs)) fun v24 =>
    M.need ((List.length v20 + List.length ([(⟨x22.dev, (IntKind.u64.wrap (v24 - 1))⟩ : TDot)])) * 16 ≤ 140737488355328) <|
    M.pure (.next (((IntKind.i64.wrap (v19 + 1)), (v20 ++ [(⟨x22.dev, (IntKind.u64.wrap (v24 - 1))⟩ : TDot)])))))
    (M.pure (.done v20))
/-- epitaph/ctx.Base -/
def ctx_Base (c1 : List TPart) : M (List TDot) :=
  M.bind (M.det (ctx_Norm c1)) fun v2 =>
  M.bind (M.loop (ctx_Base_l0 v2) (0, ([] : List TDot))) (fun v4 =>
  M.bind (M.det (vec_Norm v4)) fun v27 =>
  M.pure v27)

/-- epitaph/epitaphlaw09.works -/
def l09_works  : M Bool :=
  M.bind (M.det (ctx_Of ([(⟨1, 1⟩ : TDot), (⟨1, 2⟩ : TDot), (⟨1, 4⟩ : TDot), (⟨2, 2⟩ : TDot)]))) fun v1 =>
  M.bind (M.det (ctx_Add v1 ([(⟨1, 3⟩ : TDot)]))) fun v3 =>
  M.bind (cond ((decide ((List.length v1 : Int) = 2)))
    (M.bind (M.det (ctx_Base v1)) fun v7 =>
    M.bind (M.det (r07_Same v7 ([(⟨1, 2⟩ : TDot)]))) fun v9 =>
    cond v9
      (M.bind (M.det (ctx_Runs v3 1)) fun v12 =>
      M.pure ((decide (((List.length v12) : Int) = 1))))
      (M.pure false))
    (M.pure false)) (fun v5 =>
  M.pure v5)

def r06_Eq_l0 (a1 : List TRun) (b2 : List TRun) : Int → M (M.Step Int (M.Ex Unit Bool)) := fun i17 =>
  cond ((decide (i17 < (List.length a1 : Int))))
    (M.bind (M.idx a1 i17) fun x19 =>
    M.bind (M.idx b2 i17) fun x21 =>
    cond ((!(decide (x19.lo = x21.lo) && decide (x19.hi = x21.hi))))
      (M.pure (.done (.ret false)))
      (M.pure (.next (IntKind.i64.wrap (i17 + 1)))))
    (M.pure (.done (.brk ())))
/-- epitaph/epitaphref06.Eq -/
def r06_Eq (a1 : List TRun) (b2 : List TRun) : M Bool :=
  cond ((!decide ((List.length a1 : Int) = (List.length b2 : Int))))
    (M.pure false)
    (M.bind (M.loop (r06_Eq_l0 a1 b2) 0) (M.exk (fun _ =>
    M.pure true)))

def r09_Eq_l0 (a1 : List TPart) (b2 : List TPart) : Int → M (M.Step Int (M.Ex Unit Bool)) := fun i33 =>
  cond ((decide (i33 < (List.length a1 : Int))))
    (M.bind (M.bind (M.idx a1 i33) fun x36 =>
    M.bind (M.idx b2 i33) fun x38 =>
    cond (!decide (x36.dev = x38.dev))
      (M.pure true)
      (M.bind (M.idx a1 i33) fun x41 =>
      M.bind (M.idx b2 i33) fun x43 =>
      M.bind (M.det (r06_Eq x41.runs x43.runs)) fun v45 =>
      M.pure (!v45))) (fun v35 =>
    cond v35
      (M.pure (.done (.ret false)))
      (M.pure (.next (IntKind.i64.wrap (i33 + 1))))))
    (M.pure (.done (.brk ())))
/-- epitaph/epitaphref09.Eq -/
def r09_Eq (a1 : List TPart) (b2 : List TPart) : M Bool :=
  cond ((!decide ((List.length a1 : Int) = (List.length b2 : Int))))
    (M.pure false)
    (M.bind (M.loop (r09_Eq_l0 a1 b2) 0) (M.exk (fun _ =>
    M.pure true)))

/-- epitaph/epitaphref06.may -/
def r06_may (x1 : TRun) : M Bool :=
  M.bind (cond (decide (1 ≤ x1.lo))
    (cond (decide (x1.lo ≤ x1.hi))
      (M.pure (decide (x1.hi ≤ 281474976710655)))
      (M.pure false))
    (M.pure false)) (fun v2 =>
  M.pure v2)

def r06_Has_l0 (l1 : List TRun) (n2 : Int) : Int → M (M.Step Int (M.Ex Unit Bool)) := fun i30 =>
  cond ((decide (i30 < (List.length l1 : Int))))
    (M.bind (M.bind (M.idx l1 i30) fun x33 =>
    M.bind (M.det (r06_may x33)) fun v35 =>
    cond v35
      (M.bind (M.idx l1 i30) fun x38 =>
      cond (decide (x38.lo ≤ n2))
        (M.bind (M.idx l1 i30) fun x41 =>
        M.pure (decide (n2 ≤ x41.hi)))
        (M.pure false))
      (M.pure false)) (fun v32 =>
    cond v32
      (M.pure (.done (.ret true)))
      (M.pure (.next (IntKind.i64.wrap (i30 + 1))))))
    (M.pure (.done (.brk ())))
/-- epitaph/epitaphref06.Has -/
def r06_Has (l1 : List TRun) (n2 : Int) : M Bool :=
  M.bind (M.loop (r06_Has_l0 l1 n2) 0) (M.exk (fun _ =>
  M.pure false))

def r06_put_l0 (l1 : List Int) (n2 : Int) : Bool × Int × List Int → M (M.Step (Bool × Int × List Int) (Bool × List Int)) := fun ⟨done43, i44, out45⟩ =>
  cond ((decide (i44 < (List.length l1 : Int))))
    (M.bind (M.bind (cond (!done43)
      (M.bind (M.idx l1 i44) fun x51 =>
      M.pure (decide (n2 ≤ x51)))
      (M.pure false)) (fun v49 =>
    M.bind (cond v49
      (M.need ((List.length out45 + List.length ([n2])) * 8 ≤ 140737488355328) <|
      M.pure (true, (out45 ++ [n2])))
      (M.pure (done43, out45))) (fun ⟨done53, out54⟩ =>
    M.bind (M.idx l1 i44) fun x57 =>
    cond (!decide (x57 = n2))
      (M.bind (M.idx l1 i44) fun x60 =>
      M.need ((List.length out54 + List.length ([x60])) * 8 ≤ 140737488355328) <|
      M.pure (done53, (out54 ++ [x60])))
      (M.pure (done53, out54))))) (fun ⟨done47, out48⟩ =>
    M.pure (.next ((done47, (IntKind.i64.wrap (i44 + 1)), out48)))))
    (M.pure (.done (done43, out45)))
/-- epitaph/epitaphref06.put -/
def r06_put (l1 : List Int) (n2 : Int) : M (List Int) :=
  M.bind (M.loop (r06_put_l0 l1 n2) (false, 0, ([] : List Int))) (fun ⟨done3, out4⟩ =>
  M.bind (cond (!done3)
    (M.need ((List.length out4 + List.length ([n2])) * 8 ≤ 140737488355328) <|
    M.pure (out4 ++ [n2]))
    (M.pure out4)) (fun out63 =>
  M.pure out63))

def r06_points_l0 (a1 : List TRun) (b2 : List TRun) : List Int × Int → M (M.Step (List Int × Int) (List Int)) := fun ⟨out38, i39⟩ =>
  cond ((decide (i39 < (((List.length ((([] : List TRun) ++ a1) ++ b2)) : Int)))))
    (M.bind (M.bind (M.idx (((([] : List TRun) ++ a1) ++ b2)) i39) fun x42 =>
    M.bind (M.det (r06_may x42)) fun v44 =>
    cond v44
      (M.bind (M.idx (((([] : List TRun) ++ a1) ++ b2)) i39) fun x47 =>
      M.bind (M.det (r06_put out38 x47.lo)) fun v49 =>
      M.bind (M.idx (((([] : List TRun) ++ a1) ++ b2)) i39) fun x51 =>
      M.bind (M.det (r06_put v49 (IntKind.u64.wrap (x51.hi + 1)))) fun v53 =>
      M.pure v53)
      (M.pure out38)) (fun out41 =>
    M.pure (.next ((out41, (IntKind.i64.wrap (i39 + 1)))))))
    (M.pure (.done out38))
/-- epitaph/epitaphref06.points -/
def r06_points (a1 : List TRun) (b2 : List TRun) : M (List Int) :=
  M.need ((List.length ([] : List TRun) + List.length a1) * 16 ≤ 140737488355328) <|
  M.need ((List.length (([] : List TRun) ++ a1) + List.length b2) * 16 ≤ 140737488355328) <|
  M.bind (M.loop (r06_points_l0 a1 b2) (([] : List Int), 0)) (fun out5 =>
  M.pure out5)

def r06_set_l0 (v4 : List Int) (a1 : List TRun) (b2 : List TRun) (how3 : Int) : Int × List TRun → M (M.Step (Int × List TRun) (List TRun)) := fun ⟨i85, out86⟩ =>
  cond ((decide ((IntKind.i64.wrap (i85 + 1)) < (List.length v4 : Int))))
    (M.bind (M.bind (M.idx v4 i85) fun x89 =>
    M.bind (M.det (r06_Has a1 x89)) fun v91 =>
    M.bind (M.idx v4 i85) fun x93 =>
    M.bind (M.det (r06_Has b2 x93)) fun v95 =>
    M.bind (cond v91
      (M.pure true)
      (M.pure v95)) (fun in97 =>
    M.bind (cond (decide (how3 = 1))
      (M.bind (cond v91
        (M.pure v95)
        (M.pure false)) (fun in101 =>
      M.pure in101))
      (M.pure in97)) (fun in99 =>
    M.bind (cond (decide (how3 = 2))
      (M.bind (cond v91
        (M.pure (!v95))
        (M.pure false)) (fun in105 =>
      M.pure in105))
      (M.pure in99)) (fun in103 =>
    M.bind (cond in103
      (cond ((decide (0 ≤ ((IntKind.i64.wrap (((List.length out86) : Int) - 1))))))
        (M.bind (M.idx out86 ((IntKind.i64.wrap (((List.length out86) : Int) - 1)))) fun x110 =>
        M.bind (M.idx v4 i85) fun x112 =>
        M.pure ((decide ((IntKind.u64.wrap (x110.hi + 1)) = x112))))
        (M.pure false))
      (M.pure false)) (fun v107 =>
    cond v107
      (M.bind (M.idx v4 (IntKind.i64.wrap (i85 + 1))) fun x115 =>
      M.bind (M.idx out86 ((IntKind.i64.wrap (((List.length out86) : Int) - 1)))) fun x117 =>
      M.pure ((List.set out86 ((Int.toNat ((IntKind.i64.wrap (((List.length out86) : Int) - 1))))) ((⟨x117.lo, (IntKind.u64.wrap (x115 - 1))⟩ : TRun)))))
      (cond in103
        (M.bind (M.idx v4 i85) fun x120 =>
        M.bind (M.idx v4 (IntKind.i64.wrap (i85 + 1))) fun x122 =>
        M.need ((List.length out86 + List.length ([(⟨x120, (IntKind.u64.wrap (x122 - 1))⟩ : TRun)])) * 16 ≤ 140737488355328) <|
        M.pure ((out86 ++ [(⟨x120, (IntKind.u64.wrap (x122 - 1))⟩ : TRun)])))
        (M.pure out86))))))) (fun out88 =>
    M.pure (.next (((IntKind.i64.wrap (i85 + 1)), out88)))))
    (M.pure (.done out86))
/-- epitaph/epitaphref06.set -/
def r06_set (a1 : List TRun) (b2 : List TRun) (how3 : Int) : M (List TRun) :=
  M.bind (M.det (r06_points a1 b2)) fun v4 =>
  M.bind (M.loop (r06_set_l0 v4 a1 b2 how3) (0, ([] : List TRun))) (fun out6 =>
  M.pure out6)

/-- epitaph/epitaphref06.Join -/
def r06_Join (a1 : List TRun) (b2 : List TRun) : M (List TRun) :=
  M.bind (M.det (r06_set a1 b2 0)) fun v3 =>
  M.pure v3

def r09_Runs_l0 (c1 : List TPart) (dev2 : Int) : List TRun × Int → M (M.Step (List TRun × Int) (List TRun)) := fun ⟨out28, i29⟩ =>
  cond ((decide (i29 < (List.length c1 : Int))))
    (M.bind (M.bind (M.bind (M.idx c1 i29) fun x33 =>
    cond (decide (x33.dev = dev2))
      (M.pure (!decide (dev2 = 0)))
      (M.pure false)) (fun v32 =>
    cond v32
      (M.bind (M.idx c1 i29) fun x37 =>
      M.bind (M.det (r06_Join out28 x37.runs)) fun v39 =>
      M.pure v39)
      (M.pure out28))) (fun out31 =>
    M.pure (.next ((out31, (IntKind.i64.wrap (i29 + 1)))))))
    (M.pure (.done out28))
/-- epitaph/epitaphref09.Runs -/
def r09_Runs (c1 : List TPart) (dev2 : Int) : M (List TRun) :=
  M.bind (M.loop (r09_Runs_l0 c1 dev2) (([] : List TRun), 0)) (fun out3 =>
  M.pure out3)

/-- epitaph/epitaphref07.Cmp -/
def r07_Cmp (a1 : TDot) (b2 : TDot) : M Int :=
  cond (((decide (a1.dev = b2.dev) && decide (a1.n = b2.n))))
    (M.pure 0)
    (M.bind (cond (decide (a1.dev < b2.dev))
      (M.pure true)
      (cond (decide (a1.dev = b2.dev))
        (M.pure (decide (a1.n < b2.n)))
        (M.pure false))) (fun v4 =>
    cond v4
      (M.pure (-1))
      (M.pure 1)))

def r07_Put_l0 (l1 : List TDot) (d2 : TDot) : Int × List TDot → M (M.Step (Int × List TDot) (List TDot)) := fun ⟨i26, out27⟩ =>
  cond ((decide (i26 < (List.length l1 : Int))))
    (M.bind (M.bind (M.idx l1 i26) fun x30 =>
    M.bind (M.det (r07_Cmp x30 d2)) fun v32 =>
    cond (decide (v32 < 0))
      (M.bind (M.idx l1 i26) fun x35 =>
      M.need ((List.length out27 + List.length ([x35])) * 16 ≤ 140737488355328) <|
      M.pure (out27 ++ [x35]))
      (M.pure out27)) (fun out29 =>
    M.pure (.next (((IntKind.i64.wrap (i26 + 1)), out29)))))
    (M.pure (.done out27))
def r07_Put_l1 (l1 : List TDot) (d2 : TDot) : Int × List TDot → M (M.Step (Int × List TDot) (List TDot)) := fun ⟨i62, out63⟩ =>
  cond ((decide (i62 < (List.length l1 : Int))))
    (M.bind (M.bind (M.idx l1 i62) fun x66 =>
    M.bind (M.det (r07_Cmp x66 d2)) fun v68 =>
    cond (decide (0 < v68))
      (M.bind (M.idx l1 i62) fun x71 =>
      M.need ((List.length out63 + List.length ([x71])) * 16 ≤ 140737488355328) <|
      M.pure (out63 ++ [x71]))
      (M.pure out63)) (fun out65 =>
    M.pure (.next (((IntKind.i64.wrap (i62 + 1)), out65)))))
    (M.pure (.done out63))
/-- epitaph/epitaphref07.Put -/
def r07_Put (l1 : List TDot) (d2 : TDot) : M (List TDot) :=
  M.bind (M.loop (r07_Put_l0 l1 d2) (0, ([] : List TDot))) (fun out3 =>
  M.need ((List.length out3 + List.length ([d2])) * 16 ≤ 140737488355328) <|
  M.bind (M.loop (r07_Put_l1 l1 d2) (0, (out3 ++ [d2]))) (fun out39 =>
  M.pure out39))

def r09_devs_l0 (a1 : List TPart) : List TDot × Int → M (M.Step (List TDot × Int) (List TDot)) := fun ⟨out16, i17⟩ =>
  cond ((decide (i17 < (List.length a1 : Int))))
    (M.bind (M.idx a1 i17) fun x19 =>
    M.bind (M.det (r07_Put out16 (⟨x19.dev, 1⟩ : TDot))) fun v21 =>
    M.pure (.next ((v21, (IntKind.i64.wrap (i17 + 1))))))
    (M.pure (.done out16))
def r09_devs_l1 (b2 : List TPart) : List TDot × Int → M (M.Step (List TDot × Int) (List TDot)) := fun ⟨out36, i37⟩ =>
  cond ((decide (i37 < (List.length b2 : Int))))
    (M.bind (M.idx b2 i37) fun x39 =>
    M.bind (M.det (r07_Put out36 (⟨x39.dev, 1⟩ : TDot))) fun v41 =>
    M.pure (.next ((v41, (IntKind.i64.wrap (i37 + 1))))))
    (M.pure (.done out36))
/-- epitaph/epitaphref09.devs -/
def r09_devs (a1 : List TPart) (b2 : List TPart) : M (List TDot) :=
  M.bind (M.loop (r09_devs_l0 a1) (([] : List TDot), 0)) (fun out3 =>
  M.bind (M.loop (r09_devs_l1 b2) (out3, 0)) (fun out23 =>
  M.pure out23))

/-- epitaph/epitaphref06.Meet -/
def r06_Meet (a1 : List TRun) (b2 : List TRun) : M (List TRun) :=
  M.bind (M.det (r06_set a1 b2 1)) fun v3 =>
  M.pure v3

/-- epitaph/epitaphref06.Minus -/
def r06_Minus (a1 : List TRun) (b2 : List TRun) : M (List TRun) :=
  M.bind (M.det (r06_set a1 b2 2)) fun v3 =>
  M.pure v3

def r09_set_l0 (v4 : List TDot) (a1 : List TPart) (b2 : List TPart) (how3 : Int) : Int × List TPart → M (M.Step (Int × List TPart) (List TPart)) := fun ⟨i57, out58⟩ =>
  cond ((decide (i57 < (List.length v4 : Int))))
    (M.bind (M.bind (M.idx v4 i57) fun x61 =>
    M.bind (M.det (r09_Runs a1 x61.dev)) fun v63 =>
    M.bind (M.idx v4 i57) fun x65 =>
    M.bind (M.det (r09_Runs b2 x65.dev)) fun v67 =>
    M.bind (M.det (r06_Join v63 v67)) fun v69 =>
    M.bind (cond (decide (how3 = 1))
      (M.bind (M.det (r06_Meet v63 v67)) fun v73 =>
      M.pure v73)
      (M.pure v69)) (fun z71 =>
    M.bind (cond (decide (how3 = 2))
      (M.bind (M.det (r06_Minus v63 v67)) fun v77 =>
      M.pure v77)
      (M.pure z71)) (fun z75 =>
    cond ((decide (0 < (List.length z75 : Int))))
      (M.bind (M.idx v4 i57) fun x80 =>
      M.need ((List.length out58 + List.length ([(⟨x80.dev, z75⟩ : TPart)])) * 32 ≤ 140737488355328) <|
      M.pure (out58 ++ [(⟨x80.dev, z75⟩ : TPart)]))
      (M.pure out58)))) (fun out60 =>
    M.pure (.next (((IntKind.i64.wrap (i57 + 1)), out60)))))
    (M.pure (.done out58))
/-- epitaph/epitaphref09.set -/
def r09_set (a1 : List TPart) (b2 : List TPart) (how3 : Int) : M (List TPart) :=
  M.bind (M.det (r09_devs a1 b2)) fun v4 =>
  M.bind (M.loop (r09_set_l0 v4 a1 b2 how3) (0, ([] : List TPart))) (fun out6 =>
  M.pure out6)

/-- epitaph/epitaphref09.Join -/
def r09_Join (a1 : List TPart) (b2 : List TPart) : M (List TPart) :=
  M.bind (M.det (r09_set a1 b2 0)) fun v3 =>
  M.pure v3

def runs_Meet_l0  : List TRun × List TRun × List TRun → M (M.Step (List TRun × List TRun × List TRun) (List TRun)) := fun ⟨a53, b54, out55⟩ =>
  M.bind (cond ((decide (0 < (List.length a53 : Int))))
    (M.pure ((decide (0 < (List.length b54 : Int)))))
    (M.pure false)) (fun v56 =>
  cond v56
    (M.bind (M.idx a53 0) fun x59 =>
    M.bind (M.idx b54 0) fun x61 =>
    M.bind (M.idx a53 0) fun x63 =>
    M.bind (M.idx b54 0) fun x65 =>
    M.bind (cond ((decide ((max x59.lo x61.lo) ≤ (min x63.hi x65.hi))))
      (M.need ((List.length out55 + List.length ([(⟨(max x59.lo x61.lo), (min x63.hi x65.hi)⟩ : TRun)])) * 16 ≤ 140737488355328) <|
      M.pure ((out55 ++ [(⟨(max x59.lo x61.lo), (min x63.hi x65.hi)⟩ : TRun)])))
      (M.pure out55)) (fun out67 =>
    M.bind (M.idx a53 0) fun x70 =>
    M.bind (M.idx b54 0) fun x72 =>
    cond (decide (x70.hi < x72.hi))
      (M.need ((0 : Int) ≤ 1 ∧ (1 : Int) ≤ (List.length a53 : Int) ∧ (List.length a53 : Int) ≤ (List.length a53 : Int)) <|
      M.pure (.next (((List.drop (Int.toNat 1) (List.take (Int.toNat (List.length a53 : Int)) a53)), b54, out67))))
      (M.need ((0 : Int) ≤ 1 ∧ (1 : Int) ≤ (List.length b54 : Int) ∧ (List.length b54 : Int) ≤ (List.length b54 : Int)) <|
      M.pure (.next ((a53, (List.drop (Int.toNat 1) (List.take (Int.toNat (List.length b54 : Int)) b54)), out67))))))
    (M.pure (.done out55)))
/-- epitaph/runs.Meet -/
def runs_Meet (a1 : List TRun) (b2 : List TRun) : M (List TRun) :=
  M.bind (M.det (runs_Norm a1)) fun v3 =>
  M.bind (M.det (runs_Norm b2)) fun v5 =>
  M.bind (M.loop runs_Meet_l0 (v3, v5, ([] : List TRun))) (fun out7 =>
  M.pure out7)

def ctx_each_runs_Meet_l0 (v6 : List (Int × List TRun)) : List Nat × (List (Int × List TRun)) → M (M.Step (List Nat × (List (Int × List TRun))) (List (Int × List TRun))) := fun ⟨seen32, v33⟩ =>
  M.need (∀ i ∈ seen32, i < List.length v33) <| M.bind (M.nxt (List.length v33) seen32) fun o => match o with
  | none =>
    M.pure (.done v33)
  | some j34 =>
    M.bind (M.idx v33 (Int.ofNat j34)) fun kv38 =>
    M.bind (M.det (runs_Meet kv38.2 (AL.getZ v6 kv38.1 ([] : List TRun)))) fun v40 =>
    M.need (AL.has v33 kv38.1 = true) <|
    M.pure (.next ((seen32 ++ [j34]), (AL.set v33 kv38.1 v40)))
/-- epitaph/ctx.each -/
def ctx_each_runs_Meet (a1 : List TPart) (b2 : List TPart) : M (List TPart) :=
  M.bind (M.det (ctx_told a1)) fun v3 =>
  M.bind (M.det (ctx_told b2)) fun v6 =>
  M.bind (M.loop (ctx_each_runs_Meet_l0 v6) ([], v3)) (fun v9 =>
  M.bind (M.det (ctx_order v9)) fun v44 =>
  M.pure v44)

/-- epitaph/ctx.Meet -/
def ctx_Meet (a1 : List TPart) (b2 : List TPart) : M (List TPart) :=
  M.bind (M.det (ctx_each_runs_Meet a1 b2)) fun v3 =>
  M.pure v3

/-- epitaph/epitaphref09.Meet -/
def r09_Meet (a1 : List TPart) (b2 : List TPart) : M (List TPart) :=
  M.bind (M.det (r09_set a1 b2 1)) fun v3 =>
  M.pure v3

def runs_rest_l0 (v2 : List TRun) : Int × Int × List TRun → M (M.Step (Int × Int × List TRun) (Int × List TRun)) := fun ⟨at17, v18, out19⟩ =>
  cond ((decide (v18 < ((List.length v2) : Int))))
    (M.bind (M.idx v2 v18) fun x21 =>
    M.need ((List.length out19 + List.length ([(⟨at17, (IntKind.u64.wrap (x21.lo - 1))⟩ : TRun)])) * 16 ≤ 140737488355328) <|
    M.pure (.next (((IntKind.u64.wrap (x21.hi + 1)), (IntKind.i64.wrap (v18 + 1)), (out19 ++ [(⟨at17, (IntKind.u64.wrap (x21.lo - 1))⟩ : TRun)])))))
    (M.pure (.done (at17, out19)))
/-- epitaph/runs.rest -/
def runs_rest (l1 : List TRun) : M (List TRun) :=
  M.bind (M.det (runs_Norm l1)) fun v2 =>
  M.bind (M.loop (runs_rest_l0 v2) (1, 0, ([] : List TRun))) (fun ⟨at4, out5⟩ =>
  M.need ((List.length out5 + List.length ([(⟨at4, 281474976710655⟩ : TRun)])) * 16 ≤ 140737488355328) <|
  M.pure (out5 ++ [(⟨at4, 281474976710655⟩ : TRun)]))

/-- epitaph/runs.Minus -/
def runs_Minus (a1 : List TRun) (b2 : List TRun) : M (List TRun) :=
  M.bind (M.det (runs_rest b2)) fun v3 =>
  M.bind (M.det (runs_Meet a1 v3)) fun v5 =>
  M.pure v5

def ctx_each_runs_Minus_l0 (v6 : List (Int × List TRun)) : List Nat × (List (Int × List TRun)) → M (M.Step (List Nat × (List (Int × List TRun))) (List (Int × List TRun))) := fun ⟨seen32, v33⟩ =>
  M.need (∀ i ∈ seen32, i < List.length v33) <| M.bind (M.nxt (List.length v33) seen32) fun o => match o with
  | none =>
    M.pure (.done v33)
  | some j34 =>
    M.bind (M.idx v33 (Int.ofNat j34)) fun kv38 =>
    M.bind (M.det (runs_Minus kv38.2 (AL.getZ v6 kv38.1 ([] : List TRun)))) fun v40 =>
    M.need (AL.has v33 kv38.1 = true) <|
    M.pure (.next ((seen32 ++ [j34]), (AL.set v33 kv38.1 v40)))
/-- epitaph/ctx.each -/
def ctx_each_runs_Minus (a1 : List TPart) (b2 : List TPart) : M (List TPart) :=
  M.bind (M.det (ctx_told a1)) fun v3 =>
  M.bind (M.det (ctx_told b2)) fun v6 =>
  M.bind (M.loop (ctx_each_runs_Minus_l0 v6) ([], v3)) (fun v9 =>
  M.bind (M.det (ctx_order v9)) fun v44 =>
  M.pure v44)

/-- epitaph/ctx.Minus -/
def ctx_Minus (a1 : List TPart) (b2 : List TPart) : M (List TPart) :=
  M.bind (M.det (ctx_each_runs_Minus a1 b2)) fun v3 =>
  M.pure v3

/-- epitaph/epitaphref09.Minus -/
def r09_Minus (a1 : List TPart) (b2 : List TPart) : M (List TPart) :=
  M.bind (M.det (r09_set a1 b2 2)) fun v3 =>
  M.pure v3

/-- epitaph/ctx.Within -/
def ctx_Within (a1 : List TPart) (b2 : List TPart) : M Bool :=
  M.bind (M.det (ctx_Minus a1 b2)) fun v3 =>
  M.pure ((decide (((List.length v3) : Int) = 0)))

/-- epitaph/epitaphref09.Within -/
def r09_Within (a1 : List TPart) (b2 : List TPart) : M Bool :=
  M.bind (M.det (r09_Minus a1 b2)) fun v3 =>
  M.pure ((decide (((List.length v3) : Int) = 0)))

def slices_Equal_sl_Run_Run_l0 (s1_1 : List TRun) (s2_2 : List TRun) : Int → M (M.Step Int (M.Ex Unit Bool)) := fun v17 =>
  cond ((decide (v17 < (List.length s1_1 : Int))))
    (M.bind (M.idx s1_1 v17) fun x19 =>
    M.bind (M.idx s2_2 v17) fun x21 =>
    cond ((!(decide (x19.lo = x21.lo) && decide (x19.hi = x21.hi))))
      (M.pure (.done (.ret false)))
      (M.pure (.next (IntKind.i64.wrap (v17 + 1)))))
    (M.pure (.done (.brk ())))
/-- slices.Equal[[]epitaph/api.Run,epitaph/api.Run] -/
def slices_Equal_sl_Run_Run (s1_1 : List TRun) (s2_2 : List TRun) : M Bool :=
  cond ((!decide ((List.length s1_1 : Int) = (List.length s2_2 : Int))))
    (M.pure false)
    (M.bind (M.loop (slices_Equal_sl_Run_Run_l0 s1_1 s2_2) 0) (M.exk (fun _ =>
    M.pure true)))

/-- epitaph/ctx.eq$1 -/
def ctx_eq_c1 (x1 : TPart) (y2 : TPart) : M Bool :=
  M.bind (cond (decide (x1.dev = y2.dev))
    (M.bind (M.det (slices_Equal_sl_Run_Run x1.runs y2.runs)) fun v5 =>
    M.pure v5)
    (M.pure false)) (fun v3 =>
  M.pure v3)

def slices_EqualFunc_Ctx_Ctx_Part_Part_ctx_eq_c1_l0 (s1_1 : List TPart) (s2_2 : List TPart) : Int → M (M.Step Int (M.Ex Unit Bool)) := fun v21 =>
  cond ((decide (v21 < (List.length s1_1 : Int))))
    (M.bind (M.idx s1_1 v21) fun x23 =>
    M.bind (M.idx s2_2 v21) fun x25 =>
    M.bind (M.det (ctx_eq_c1 x23 x25)) fun v27 =>
    cond (!v27)
      (M.pure (.done (.ret false)))
      (M.pure (.next (IntKind.i64.wrap (v21 + 1)))))
    (M.pure (.done (.brk ())))
/-- slices.EqualFunc[epitaph/api.Ctx,epitaph/api.Ctx,epitaph/api.Part,epitaph/api.Part] -/
def slices_EqualFunc_Ctx_Ctx_Part_Part_ctx_eq_c1 (s1_1 : List TPart) (s2_2 : List TPart) : M Bool :=
  cond ((!decide ((List.length s1_1 : Int) = (List.length s2_2 : Int))))
    (M.pure false)
    (M.bind (M.loop (slices_EqualFunc_Ctx_Ctx_Part_Part_ctx_eq_c1_l0 s1_1 s2_2) 0) (M.exk (fun _ =>
    M.pure true)))

/-- epitaph/ctx.eq -/
def ctx_eq (a1 : List TPart) (b2 : List TPart) : M Bool :=
  M.bind (M.det (slices_EqualFunc_Ctx_Ctx_Part_Part_ctx_eq_c1 a1 b2)) fun v3 =>
  M.pure v3

/-- epitaph/ctx.Same -/
def ctx_Same (a1 : List TPart) (b2 : List TPart) : M Bool :=
  M.bind (M.det (ctx_Norm a1)) fun v3 =>
  M.bind (M.det (ctx_Norm b2)) fun v5 =>
  M.bind (M.det (ctx_eq v3 v5)) fun v7 =>
  M.pure v7

/-- epitaph/epitaphref09.Norm -/
def r09_Norm (c1 : List TPart) : M (List TPart) :=
  M.bind (M.det (r09_set c1 ([] : List TPart) 0)) fun v2 =>
  M.pure v2

/-- epitaph/epitaphref09.Same -/
def r09_Same (a1 : List TPart) (b2 : List TPart) : M Bool :=
  M.bind (M.det (r09_Norm a1)) fun v3 =>
  M.bind (M.det (r09_Norm b2)) fun v5 =>
  M.bind (M.det (r09_Eq v3 v5)) fun v7 =>
  M.pure v7

/-- epitaph/epitaphlaw09.CtxSets -/
def l09_CtxSets (a1 : List TPart) (b2 : List TPart) : M Bool :=
  M.bind (M.bind (M.det (r09_Few a1)) fun v4 =>
  cond (!v4)
    (M.pure true)
    (M.bind (M.det (r09_Few b2)) fun v7 =>
    M.pure (!v7))) (fun v3 =>
  cond v3
    (M.bind (M.det (l09_works)) fun v10 =>
    M.pure v10)
    (M.bind (M.bind (M.det (ctx_Join a1 b2)) fun v13 =>
    M.bind (M.det (r09_Join a1 b2)) fun v15 =>
    M.bind (M.det (r09_Eq v13 v15)) fun v17 =>
    cond v17
      (M.bind (M.det (ctx_Meet a1 b2)) fun v20 =>
      M.bind (M.det (r09_Meet a1 b2)) fun v22 =>
      M.bind (M.det (r09_Eq v20 v22)) fun v24 =>
      cond v24
        (M.bind (M.det (ctx_Minus a1 b2)) fun v27 =>
        M.bind (M.det (r09_Minus a1 b2)) fun v29 =>
        M.bind (M.det (r09_Eq v27 v29)) fun v31 =>
        cond v31
          (M.bind (M.det (ctx_Within a1 b2)) fun v34 =>
          M.bind (M.det (r09_Within a1 b2)) fun v36 =>
          cond (v34 == v36)
            (M.bind (M.det (ctx_Same a1 b2)) fun v39 =>
            M.bind (M.det (r09_Same a1 b2)) fun v41 =>
            cond (v39 == v41)
              (M.bind (M.det (l09_works)) fun v44 =>
              M.pure v44)
              (M.pure false))
            (M.pure false))
          (M.pure false))
        (M.pure false))
      (M.pure false)) (fun v12 =>
    M.pure v12)))

/-- epitaph/ctx.Good -/
def ctx_Good (c1 : List TPart) : M Bool :=
  M.bind (M.det (ctx_Norm c1)) fun v2 =>
  M.bind (M.det (ctx_eq c1 v2)) fun v4 =>
  M.pure v4

/-- epitaph/epitaphref09.Good -/
def r09_Good (c1 : List TPart) : M Bool :=
  M.bind (M.det (r09_Norm c1)) fun v2 =>
  M.bind (M.det (r09_Eq c1 v2)) fun v4 =>
  M.pure v4

/-- epitaph/epitaphref07.Good -/
def r07_Good (d1 : TDot) : M Bool :=
  M.bind (cond (decide (1 ≤ d1.dev))
    (cond (decide (1 ≤ d1.n))
      (M.pure (decide (d1.n < 281474976710656)))
      (M.pure false))
    (M.pure false)) (fun v2 =>
  M.pure v2)

def r09_Of_l0 (l1 : List TDot) : List TPart × Int → M (M.Step (List TPart × Int) (List TPart)) := fun ⟨out35, i36⟩ =>
  cond ((decide (i36 < (List.length l1 : Int))))
    (M.bind (M.bind (M.idx l1 i36) fun x39 =>
    M.bind (M.det (r07_Good x39)) fun v41 =>
    cond v41
      (M.bind (M.idx l1 i36) fun x44 =>
      M.bind (M.idx l1 i36) fun x46 =>
      M.bind (M.idx l1 i36) fun x48 =>
      M.bind (M.det (r09_Join out35 ([(⟨x44.dev, [(⟨x46.n, x48.n⟩ : TRun)]⟩ : TPart)]))) fun v50 =>
      M.pure v50)
      (M.pure out35)) (fun out38 =>
    M.pure (.next ((out38, (IntKind.i64.wrap (i36 + 1)))))))
    (M.pure (.done out35))
/-- epitaph/epitaphref09.Of -/
def r09_Of (l1 : List TDot) : M (List TPart) :=
  M.bind (M.loop (r09_Of_l0 l1) (([] : List TPart), 0)) (fun out2 =>
  M.pure out2)

/-- epitaph/runs.Has$1 -/
def runs_Has_c1 (x1 : TRun) (n2 : Int) : M Int :=
  M.bind (M.det (cmp_Compare_uint64 x1.hi n2)) fun v3 =>
  M.pure v3

def slices_BinarySearchFunc_sl_Run_Run_uint64_runs_Has_c1_l0 (x1 : List TRun) (target2 : Int) : Int × Int → M (M.Step (Int × Int) Int) := fun ⟨i18, j19⟩ =>
  cond (decide (i18 < j19))
    (M.bind (M.idx x1 ((IntKind.i64.wrap ((Int.fdiv ((IntKind.u64.wrap (IntKind.i64.wrap (i18 + j19)))) (2 ^ 1)))))) fun x21 =>
    M.bind (M.det (runs_Has_c1 x21 target2)) fun v23 =>
    cond (decide (v23 < 0))
      (M.pure (.next (((IntKind.i64.wrap (((IntKind.i64.wrap ((Int.fdiv ((IntKind.u64.wrap (IntKind.i64.wrap (i18 + j19)))) (2 ^ 1))))) + 1)), j19))))
      (M.pure (.next ((i18, (IntKind.i64.wrap ((Int.fdiv ((IntKind.u64.wrap (IntKind.i64.wrap (i18 + j19)))) (2 ^ 1)))))))))
    (M.pure (.done i18))
/-- slices.BinarySearchFunc[[]epitaph/api.Run,epitaph/api.Run,uint64] -/
def slices_BinarySearchFunc_sl_Run_Run_uint64_runs_Has_c1 (x1 : List TRun) (target2 : Int) : M (Int × Bool) :=
  M.bind (M.loop (slices_BinarySearchFunc_sl_Run_Run_uint64_runs_Has_c1_l0 x1 target2) (0, (List.length x1 : Int))) (fun i3 =>
  M.bind (cond ((decide (i3 < (List.length x1 : Int))))
    (M.bind (M.idx x1 i3) fun x28 =>
    M.bind (M.det (runs_Has_c1 x28 target2)) fun v30 =>
    M.pure (decide (v30 = 0)))
    (M.pure false)) (fun v26 =>
  M.pure (i3, v26)))

/-- epitaph/runs.Has -/
def runs_Has (l1 : List TRun) (n2 : Int) : M Bool :=
  M.bind (M.det (runs_Norm l1)) fun v3 =>
  M.bind (M.det (slices_BinarySearchFunc_sl_Run_Run_uint64_runs_Has_c1 v3 n2)) fun v5 =>
  M.bind (cond ((decide (v5.1 < (List.length v3 : Int))))
    (M.bind (M.idx v3 v5.1) fun x9 =>
    M.pure (decide (x9.lo ≤ n2)))
    (M.pure false)) (fun v7 =>
  M.pure v7)

/-- epitaph/ctx.Has -/
def ctx_Has (c1 : List TPart) (d2 : TDot) : M Bool :=
  M.bind (cond (decide (0 < d2.dev))
    (M.bind (M.det (ctx_Runs c1 d2.dev)) fun v5 =>
    M.bind (M.det (runs_Has v5 d2.n)) fun v7 =>
    M.pure v7)
    (M.pure false)) (fun v3 =>
  M.pure v3)

/-- epitaph/epitaphref09.Has -/
def r09_Has (c1 : List TPart) (d2 : TDot) : M Bool :=
  M.bind (M.bind (M.det (r07_Good d2)) fun v4 =>
  cond v4
    (M.bind (M.det (r09_Runs c1 d2.dev)) fun v7 =>
    M.bind (M.det (r06_Has v7 d2.n)) fun v9 =>
    M.pure v9)
    (M.pure false)) (fun v3 =>
  M.pure v3)

/-- epitaph/ctx.Only -/
def ctx_Only (c1 : List TPart) (dev2 : Int) : M (List TPart) :=
  M.bind (M.det (ctx_Runs c1 dev2)) fun v3 =>
  M.bind (M.det (ctx_Norm ([(⟨dev2, v3⟩ : TPart)]))) fun v5 =>
  M.pure v5

/-- epitaph/epitaphref09.Only -/
def r09_Only (c1 : List TPart) (dev2 : Int) : M (List TPart) :=
  M.bind (M.det (r09_Runs c1 dev2)) fun v3 =>
  cond ((decide ((List.length v3 : Int) = 0)))
    (M.pure ([] : List TPart))
    (M.pure ([(⟨dev2, v3⟩ : TPart)]))

/-- epitaph/runs.Size -/
def runs_SizeL (l : List TRun) : Int := List.foldl (fun n x => IntKind.u64.wrap (n + IntKind.u64.wrap (IntKind.u64.wrap (x.hi - x.lo) + 1))) 0 l
def runs_Size (l1 : List TRun) : M Int :=
  M.bind (M.det (runs_Norm l1)) fun l2 => M.pure (runs_SizeL l2)

def ctx_Size_l0 (v2 : List TPart) : Int × Int → M (M.Step (Int × Int) Int) := fun ⟨n17, v18⟩ =>
  cond ((decide (v18 < ((List.length v2) : Int))))
    (M.bind (M.idx v2 v18) fun x20 =>
    M.bind (M.det (runs_Size x20.runs)) fun v22 =>
    M.pure (.next (((IntKind.u64.wrap (n17 + v22)), (IntKind.i64.wrap (v18 + 1))))))
    (M.pure (.done n17))
/-- epitaph/ctx.Size -/
def ctx_Size (c1 : List TPart) : M Int :=
  M.bind (M.det (ctx_Norm c1)) fun v2 =>
  M.bind (M.loop (ctx_Size_l0 v2) (0, 0)) (fun n4 =>
  M.pure n4)

/-- epitaph/epitaphref06.Norm -/
def r06_Norm (l1 : List TRun) : M (List TRun) :=
  M.bind (M.det (r06_set l1 ([] : List TRun) 0)) fun v2 =>
  M.pure v2

def r06_Size_l0 (v2 : List TRun) : Int × Int → M (M.Step (Int × Int) Int) := fun ⟨n17, i18⟩ =>
  cond ((decide (i18 < ((List.length v2) : Int))))
    (M.bind (M.idx v2 i18) fun x20 =>
    M.bind (M.idx v2 i18) fun x22 =>
    M.pure (.next (((IntKind.u64.wrap (((IntKind.u64.wrap ((IntKind.u64.wrap (n17 + x20.hi)) - x22.lo))) + 1)), (IntKind.i64.wrap (i18 + 1))))))
    (M.pure (.done n17))
/-- epitaph/epitaphref06.Size -/
def r06_Size (l1 : List TRun) : M Int :=
  M.bind (M.det (r06_Norm l1)) fun v2 =>
  M.bind (M.loop (r06_Size_l0 v2) (0, 0)) (fun n4 =>
  M.pure n4)

def r09_Size_l0 (v2 : List TPart) : Int × Int → M (M.Step (Int × Int) Int) := fun ⟨n17, i18⟩ =>
  cond ((decide (i18 < ((List.length v2) : Int))))
    (M.bind (M.idx v2 i18) fun x20 =>
    M.bind (M.det (r06_Size x20.runs)) fun v22 =>
    M.pure (.next (((IntKind.u64.wrap (n17 + v22)), (IntKind.i64.wrap (i18 + 1))))))
    (M.pure (.done n17))
/-- epitaph/epitaphref09.Size -/
def r09_Size (c1 : List TPart) : M Int :=
  M.bind (M.det (r09_Norm c1)) fun v2 =>
  M.bind (M.loop (r09_Size_l0 v2) (0, 0)) (fun n4 =>
  M.pure n4)

/-- epitaph/epitaphref06.First -/
def r06_First (l1 : List TRun) : M Int :=
  M.bind (M.det (r06_Norm l1)) fun v2 =>
  M.bind (cond ((decide (((List.length v2) : Int) = 0)))
    (M.pure true)
    (M.bind (M.idx v2 0) fun x6 =>
    M.pure (!decide (x6.lo = 1)))) (fun v4 =>
  cond v4
    (M.pure 1)
    (M.bind (M.idx v2 0) fun x9 =>
    M.pure (IntKind.u64.wrap (x9.hi + 1))))

def r09_Base_l0 (v2 : List TPart) : Int × List TDot → M (M.Step (Int × List TDot) (List TDot)) := fun ⟨i27, out28⟩ =>
  cond ((decide (i27 < ((List.length v2) : Int))))
    (M.bind (M.bind (M.idx v2 i27) fun x31 =>
    M.bind (M.det (r06_First x31.runs)) fun v33 =>
    cond (decide (1 < v33))
      (M.bind (M.idx v2 i27) fun x36 =>
      M.need ((List.length out28 + List.length ([(⟨x36.dev, (IntKind.u64.wrap (v33 - 1))⟩ : TDot)])) * 16 ≤ 140737488355328) <|
      M.pure ((out28 ++ [(⟨x36.dev, (IntKind.u64.wrap (v33 - 1))⟩ : TDot)])))
      (M.pure out28)) (fun out30 =>
    M.pure (.next (((IntKind.i64.wrap (i27 + 1)), out30)))))
    (M.pure (.done out28))
/-- epitaph/epitaphref09.Base -/
def r09_Base (c1 : List TPart) : M (List TDot) :=
  M.bind (M.det (r09_Norm c1)) fun v2 =>
  M.bind (M.loop (r09_Base_l0 v2) (0, ([] : List TDot))) (fun out4 =>
  M.pure out4)

def ctx_Plain_l0 (v2 : List TDot) : Int × List TPart → M (M.Step (Int × List TPart) (List TPart)) := fun ⟨v15, c16⟩ =>
  cond ((decide (v15 < ((List.length v2) : Int))))
    (M.bind (M.idx v2 v15) fun x18 =>
    M.need ((List.length c16 + List.length ([(⟨x18.dev, [(⟨1, x18.n⟩ : TRun)]⟩ : TPart)])) * 32 ≤ 140737488355328) <|
    M.pure (.next (((IntKind.i64.wrap (v15 + 1)), (c16 ++ [(⟨x18.dev, [(⟨1, x18.n⟩ : TRun)]⟩ : TPart)])))))
    (M.pure (.done c16))
/-- epitaph/ctx.Plain -/
def ctx_Plain (v1 : List TDot) : M (List TPart) :=
  M.bind (M.det (vec_Norm v1)) fun v2 =>
  M.bind (M.loop (ctx_Plain_l0 v2) (0, ([] : List TPart))) (fun c4 =>
  M.pure c4)

def r08_devs_l0 (a1 : List TDot) (b2 : List TDot) : List TDot × Int → M (M.Step (List TDot × Int) (List TDot)) := fun ⟨out30, i31⟩ =>
  cond ((decide (i31 < (((List.length ((([] : List TDot) ++ a1) ++ b2)) : Int)))))
    (M.bind (M.bind (M.idx (((([] : List TDot) ++ a1) ++ b2)) i31) fun x34 =>
    M.bind (M.det (r07_Good x34)) fun v36 =>
    cond v36
      (M.bind (M.idx (((([] : List TDot) ++ a1) ++ b2)) i31) fun x39 =>
      M.bind (M.det (r07_Put out30 (⟨x39.dev, 1⟩ : TDot))) fun v41 =>
      M.pure v41)
      (M.pure out30)) (fun out33 =>
    M.pure (.next ((out33, (IntKind.i64.wrap (i31 + 1)))))))
    (M.pure (.done out30))
/-- epitaph/epitaphref08.devs -/
def r08_devs (a1 : List TDot) (b2 : List TDot) : M (List TDot) :=
  M.need ((List.length ([] : List TDot) + List.length a1) * 16 ≤ 140737488355328) <|
  M.need ((List.length (([] : List TDot) ++ a1) + List.length b2) * 16 ≤ 140737488355328) <|
  M.bind (M.loop (r08_devs_l0 a1 b2) (([] : List TDot), 0)) (fun out5 =>
  M.pure out5)

def r08_Of_l0 (v1 : List TDot) (dev2 : Int) : Int × Int → M (M.Step (Int × Int) Int) := fun ⟨n38, i39⟩ =>
  cond ((decide (i39 < (List.length v1 : Int))))
    (M.bind (M.bind (M.bind (M.idx v1 i39) fun x43 =>
    cond (decide (x43.dev = dev2))
      (M.bind (M.idx v1 i39) fun x46 =>
      M.bind (M.det (r07_Good x46)) fun v48 =>
      cond v48
        (M.bind (M.idx v1 i39) fun x51 =>
        M.pure (decide (n38 < x51.n)))
        (M.pure false))
      (M.pure false)) (fun v42 =>
    cond v42
      (M.bind (M.idx v1 i39) fun x54 =>
      M.pure x54.n)
      (M.pure n38))) (fun n41 =>
    M.pure (.next ((n41, (IntKind.i64.wrap (i39 + 1)))))))
    (M.pure (.done n38))
/-- epitaph/epitaphref08.Of -/
def r08_Of (v1 : List TDot) (dev2 : Int) : M Int :=
  M.bind (M.loop (r08_Of_l0 v1 dev2) (0, 0)) (fun n3 =>
  M.pure n3)

def r08_both_l0 (v4 : List TDot) (a1 : List TDot) (b2 : List TDot) (greater3 : Bool) : Int × List TDot → M (M.Step (Int × List TDot) (List TDot)) := fun ⟨i41, out42⟩ =>
  cond ((decide (i41 < (List.length v4 : Int))))
    (M.bind (M.bind (M.idx v4 i41) fun x45 =>
    M.bind (M.det (r08_Of a1 x45.dev)) fun v47 =>
    M.bind (M.idx v4 i41) fun x49 =>
    M.bind (M.det (r08_Of b2 x49.dev)) fun v51 =>
    M.bind (cond ((greater3 == (decide (v47 < v51))))
      (M.pure v51)
      (M.pure v47)) (fun x53 =>
    cond (decide (0 < x53))
      (M.bind (M.idx v4 i41) fun x56 =>
      M.need ((List.length out42 + List.length ([(⟨x56.dev, x53⟩ : TDot)])) * 16 ≤ 140737488355328) <|
      M.pure (out42 ++ [(⟨x56.dev, x53⟩ : TDot)]))
      (M.pure out42))) (fun out44 =>
    M.pure (.next (((IntKind.i64.wrap (i41 + 1)), out44)))))
    (M.pure (.done out42))
/-- epitaph/epitaphref08.both -/
def r08_both (a1 : List TDot) (b2 : List TDot) (greater3 : Bool) : M (List TDot) :=
  M.bind (M.det (r08_devs a1 b2)) fun v4 =>
  M.bind (M.loop (r08_both_l0 v4 a1 b2 greater3) (0, ([] : List TDot))) (fun out6 =>
  M.pure out6)

/-- epitaph/epitaphref08.Norm -/
def r08_Norm (v1 : List TDot) : M (List TDot) :=
  M.bind (M.det (r08_both v1 ([] : List TDot) true)) fun v2 =>
  M.pure v2

def r09_Plain_l0 (v2 : List TDot) : Int × List TPart → M (M.Step (Int × List TPart) (List TPart)) := fun ⟨i19, out20⟩ =>
  cond ((decide (i19 < ((List.length v2) : Int))))
    (M.bind (M.idx v2 i19) fun x22 =>
    M.bind (M.idx v2 i19) fun x24 =>
    M.need ((List.length out20 + List.length ([(⟨x22.dev, [(⟨1, x24.n⟩ : TRun)]⟩ : TPart)])) * 32 ≤ 140737488355328) <|
    M.pure (.next (((IntKind.i64.wrap (i19 + 1)), (out20 ++ [(⟨x22.dev, [(⟨1, x24.n⟩ : TRun)]⟩ : TPart)])))))
    (M.pure (.done out20))
/-- epitaph/epitaphref09.Plain -/
def r09_Plain (v1 : List TDot) : M (List TPart) :=
  M.bind (M.det (r08_Norm v1)) fun v2 =>
  M.bind (M.loop (r09_Plain_l0 v2) (0, ([] : List TPart))) (fun out4 =>
  M.pure out4)

/-- epitaph/epitaphlaw09.CtxTells -/
def l09_CtxTells (c1 : List TPart) (l2 : List TDot) (d3 : TDot) : M Bool :=
  M.bind (M.bind (M.det (r09_Few c1)) fun v5 =>
  cond (!v5)
    (M.pure true)
    (M.pure ((decide (40 < (List.length l2 : Int)))))) (fun v4 =>
  cond v4
    (M.bind (M.det (l09_works)) fun v9 =>
    M.pure v9)
    (M.bind (M.bind (M.det (ctx_Norm c1)) fun v12 =>
    M.bind (M.det (r09_Norm c1)) fun v14 =>
    M.bind (M.det (r09_Eq v12 v14)) fun v16 =>
    cond (!v16)
      (M.pure true)
      (M.bind (M.det (ctx_Good c1)) fun v19 =>
      M.bind (M.det (r09_Good c1)) fun v21 =>
      cond (!(v19 == v21))
        (M.pure true)
        (M.bind (M.det (ctx_Of l2)) fun v24 =>
        M.bind (M.det (r09_Of l2)) fun v26 =>
        M.bind (M.det (r09_Eq v24 v26)) fun v28 =>
        cond (!v28)
          (M.pure true)
          (M.bind (M.det (ctx_Runs c1 d3.dev)) fun v31 =>
          M.bind (M.det (r09_Runs c1 d3.dev)) fun v33 =>
          M.bind (M.det (r06_Eq v31 v33)) fun v35 =>
          cond (!v35)
            (M.pure true)
            (M.bind (M.det (ctx_Has c1 d3)) fun v38 =>
            M.bind (M.det (r09_Has c1 d3)) fun v40 =>
            M.pure (!(v38 == v40))))))) (fun v11 =>
    cond v11
      (M.pure false)
      (M.bind (M.bind (M.det (ctx_Add c1 l2)) fun v44 =>
      M.bind (M.det (r09_Of l2)) fun v46 =>
      M.bind (M.det (r09_Join c1 v46)) fun v48 =>
      M.bind (M.det (r09_Eq v44 v48)) fun v50 =>
      cond v50
        (M.bind (M.det (ctx_Only c1 d3.dev)) fun v53 =>
        M.bind (M.det (r09_Only c1 d3.dev)) fun v55 =>
        M.bind (M.det (r09_Eq v53 v55)) fun v57 =>
        cond v57
          (M.bind (M.det (ctx_Size c1)) fun v60 =>
          M.bind (M.det (r09_Size c1)) fun v62 =>
          cond (decide (v60 = v62))
            (M.bind (M.det (ctx_Base c1)) fun v65 =>
            M.bind (M.det (r09_Base c1)) fun v67 =>
            M.bind (M.det (r07_Same v65 v67)) fun v69 =>
            cond v69
              (M.bind (M.det (ctx_Plain l2)) fun v72 =>
              M.bind (M.det (r09_Plain l2)) fun v74 =>
              M.bind (M.det (r09_Eq v72 v74)) fun v76 =>
              cond v76
                (M.bind (M.det (l09_works)) fun v79 =>
                M.pure v79)
                (M.pure false))
              (M.pure false))
            (M.pure false))
          (M.pure false))
        (M.pure false)) (fun v43 =>
      M.pure v43)))))
end Go.Ep
