/- What the functions compute, plainly: written by program. -/
import Derived.Test.YtdipflebhoodkaaLt
namespace Go.Ep
open Go

/-- epitaph/epitaphlaw06.few -/
def l06_few (l1 : List TRun) : M Bool :=
  M.pure ((decide ((List.length l1 : Int) ≤ 60)))

def r06_Eq_l0 (a1 : List TRun) (b2 : List TRun) : Int → M (M.Step Int (M.Ex Unit Bool)) := fun i17 =>
  cond ((decide (i17 < (List.length a1 : Int))))
    (M.bind (M.idx a1 i17) fun x19 =>
    M.bind (M.idx b2 i17) fun x21 =>
    cond ((!(decide (x19.lo = x21.lo) && decide (x19.hi = x21.hi))))
      (M.pure (.done (.ret false)))
      (M.pure (.next (IntKind.i64.wrap (i17 + 1)))))
    (M.pure (.done (.brk ())))
/-- epitaph/epitaphref06.Eq -/
def r06_Eq (a1 : List TRun) (b2 : List TRun) : M Bool :=
  cond ((!decide ((List.length a1 : Int) = (List.length b2 : Int))))
    (M.pure false)
    (M.bind (M.loop (r06_Eq_l0 a1 b2) 0) (M.exk (fun _ =>
    M.pure true)))

/-- cmp.isNaN[uint64] -/
def cmp_isNaN_uint64 (x1 : Int) : M Bool :=
  M.pure (!decide (x1 = x1))

/-- cmp.Compare[uint64] -/
def cmp_Compare_uint64 (x1 : Int) (y2 : Int) : M Int :=
  M.bind (M.det (cmp_isNaN_uint64 x1)) fun v3 =>
  M.bind (M.det (cmp_isNaN_uint64 y2)) fun v5 =>
  cond v3
    (cond v5
      (M.pure 0)
      (M.pure (-1)))
    (cond v5
      (M.pure 1)
      (cond (decide (x1 < y2))
        (M.pure (-1))
        (cond (decide (y2 < x1))
          (M.pure 1)
          (M.pure 0))))

/-- epitaph/runs.Norm$1 -/
def runs_Norm_c1 (a1 : TRun) (b2 : TRun) : M Int :=
  M.bind (M.det (cmp_Compare_uint64 a1.lo b2.lo)) fun v3 =>
  M.pure v3

def runs_Norm_l0 (l1 : List TRun) : Int × List TRun → M (M.Step (Int × List TRun) (List TRun)) := fun ⟨v23, some24⟩ =>
  cond ((decide (v23 < (List.length l1 : Int))))
    (M.bind (M.bind (M.idx l1 v23) fun x27 =>
    M.bind (cond (decide (0 < x27.lo))
      (cond (decide (x27.lo ≤ x27.hi))
        (M.pure (decide (x27.hi ≤ 281474976710655)))
        (M.pure false))
      (M.pure false)) (fun v29 =>
    cond v29
      (M.need ((List.length some24 + List.length ([x27])) * 16 ≤ 140737488355328) <|
      M.pure (some24 ++ [x27]))
      (M.pure some24))) (fun some26 =>
    M.pure (.next (((IntKind.i64.wrap (v23 + 1)), some26)))))
    (M.pure (.done some24))
def runs_Norm_l1 (some2 : List TRun) (s34 : List TRun) : Int × List TRun → M (M.Step (Int × List TRun) (List TRun)) := fun ⟨v69, out70⟩ =>
  cond ((decide (v69 < ((List.length some2) : Int))))
    (M.bind (M.bind (M.idx s34 v69) fun x73 =>
    M.bind (cond ((decide (0 ≤ ((IntKind.i64.wrap (((List.length out70) : Int) - 1))))))
      (M.bind (M.idx out70 ((IntKind.i64.wrap (((List.length out70) : Int) - 1)))) fun x77 =>
      M.pure ((decide (x73.lo ≤ (IntKind.u64.wrap (x77.hi + 1))))))
      (M.pure false)) (fun v75 =>
    cond v75
      (M.bind (M.idx out70 ((IntKind.i64.wrap (((List.length out70) : Int) - 1)))) fun x80 =>
      M.bind (M.idx out70 ((IntKind.i64.wrap (((List.length out70) : Int) - 1)))) fun x82 =>
      M.pure ((List.set out70 ((Int.toNat ((IntKind.i64.wrap (((List.length out70) : Int) - 1))))) (⟨x82.lo, (max x80.hi x73.hi)⟩ : TRun))))
      (M.need ((List.length out70 + List.length ([x73])) * 16 ≤ 140737488355328) <|
      M.pure (out70 ++ [x73])))) (fun out72 =>
    M.pure (.next (((IntKind.i64.wrap (v69 + 1)), out72)))))
    (M.pure (.done out70))
/-- epitaph/runs.Norm -/
def runs_Norm (l1 : List TRun) : M (List TRun) :=
  M.bind (M.loop (runs_Norm_l0 l1) (0, ([] : List TRun))) (fun some2 =>
  M.need (List.length some2 < 4611686018427387904) <| M.bind (M.srt ltRun some2) fun s34 =>
  M.bind (M.loop (runs_Norm_l1 some2 s34) (0, ([] : List TRun))) (fun out38 =>
  M.pure out38))

/-- epitaph/runs.Size -/
def runs_SizeL (l : List TRun) : Int := List.foldl (fun n x => IntKind.u64.wrap (n + IntKind.u64.wrap (IntKind.u64.wrap (x.hi - x.lo) + 1))) 0 l
def runs_Size (l1 : List TRun) : M Int :=
  M.bind (M.det (runs_Norm l1)) fun l2 => M.pure (runs_SizeL l2)

/-- epitaph/runs.First -/
def runs_First (l1 : List TRun) : M Int :=
  M.bind (M.det (runs_Norm l1)) fun v2 =>
  M.bind (cond ((decide (0 < ((List.length v2) : Int))))
    (M.bind (M.idx v2 0) fun x6 =>
    M.pure (decide (x6.lo = 1)))
    (M.pure false)) (fun v4 =>
  cond v4
    (M.bind (M.idx v2 0) fun x9 =>
    M.pure (IntKind.u64.wrap (x9.hi + 1)))
    (M.pure 1))

/-- epitaph/runs.Last -/
def runs_Last (l1 : List TRun) : M Int :=
  M.bind (M.det (runs_Norm l1)) fun v2 =>
  cond ((decide (0 < ((List.length v2) : Int))))
    (M.bind (M.idx v2 ((IntKind.i64.wrap (((List.length v2) : Int) - 1)))) fun x5 =>
    M.pure x5.hi)
    (M.pure 0)

def runs_Of_l0 (nums1 : List Int) : Int × List TRun → M (M.Step (Int × List TRun) (List TRun)) := fun ⟨v14, v15⟩ =>
  cond ((decide (v14 < (List.length nums1 : Int))))
    (M.bind (M.idx nums1 v14) fun x17 =>
    M.need ((List.length v15 + List.length ([(⟨x17, x17⟩ : TRun)])) * 16 ≤ 140737488355328) <|
    M.pure (.next (((IntKind.i64.wrap (v14 + 1)), (v15 ++ [(⟨x17, x17⟩ : TRun)])))))
    (M.pure (.done v15))
/-- epitaph/runs.Of -/
def runs_Of (nums1 : List Int) : M (List TRun) :=
  M.need ((0 : Int) ≤ (List.length nums1 : Int) ∧ (List.length nums1 : Int) * 16 ≤ 140737488355328) <|
  M.bind (M.loop (runs_Of_l0 nums1) (0, ([] : List TRun))) (fun v3 =>
  M.bind (M.det (runs_Norm v3)) fun v20 =>
  M.pure v20)

/-- epitaph/epitaphlaw06.works -/
def l06_works  : M Bool :=
  M.bind (M.det (runs_Of ([5, 1, 2, 6]))) fun v1 =>
  M.bind (M.bind (M.det (r06_Eq v1 ([(⟨1, 2⟩ : TRun), (⟨5, 6⟩ : TRun)]))) fun v4 =>
  cond v4
    (M.bind (M.det (runs_First v1)) fun v7 =>
    cond (decide (v7 = 3))
      (M.bind (M.det (runs_Last v1)) fun v10 =>
      cond (decide (v10 = 6))
        (M.bind (M.det (runs_Size v1)) fun v13 =>
        M.pure (decide (v13 = 4)))
        (M.pure false))
      (M.pure false))
    (M.pure false)) (fun v3 =>
  M.pure v3)

/-- epitaph/epitaphref06.may -/
def r06_may (x1 : TRun) : M Bool :=
  M.bind (cond (decide (1 ≤ x1.lo))
    (cond (decide (x1.lo ≤ x1.hi))
      (M.pure (decide (x1.hi ≤ 281474976710655)))
      (M.pure false))
    (M.pure false)) (fun v2 =>
  M.pure v2)

def r06_Has_l0 (l1 : List TRun) (n2 : Int) : Int → M (M.Step Int (M.Ex Unit Bool)) := fun i30 =>
  cond ((decide (i30 < (List.length l1 : Int))))
    (M.bind (M.bind (M.idx l1 i30) fun x33 =>
    M.bind (M.det (r06_may x33)) fun v35 =>
    cond v35
      (M.bind (M.idx l1 i30) fun x38 =>
      cond (decide (x38.lo ≤ n2))
        (M.bind (M.idx l1 i30) fun x41 =>
        M.pure (decide (n2 ≤ x41.hi)))
        (M.pure false))
      (M.pure false)) (fun v32 =>
    cond v32
      (M.pure (.done (.ret true)))
      (M.pure (.next (IntKind.i64.wrap (i30 + 1))))))
    (M.pure (.done (.brk ())))
/-- epitaph/epitaphref06.Has -/
def r06_Has (l1 : List TRun) (n2 : Int) : M Bool :=
  M.bind (M.loop (r06_Has_l0 l1 n2) 0) (M.exk (fun _ =>
  M.pure false))

def r06_put_l0 (l1 : List Int) (n2 : Int) : Bool × Int × List Int → M (M.Step (Bool × Int × List Int) (Bool × List Int)) := fun ⟨done43, i44, out45⟩ =>
  cond ((decide (i44 < (List.length l1 : Int))))
    (M.bind (M.bind (cond (!done43)
      (M.bind (M.idx l1 i44) fun x51 =>
      M.pure (decide (n2 ≤ x51)))
      (M.pure false)) (fun v49 =>
    M.bind (cond v49
      (M.need ((List.length out45 + List.length ([n2])) * 8 ≤ 140737488355328) <|
      M.pure (true, (out45 ++ [n2])))
      (M.pure (done43, out45))) (fun ⟨done53, out54⟩ =>
    M.bind (M.idx l1 i44) fun x57 =>
    cond (!decide (x57 = n2))
      (M.bind (M.idx l1 i44) fun x60 =>
      M.need ((List.length out54 + List.length ([x60])) * 8 ≤ 140737488355328) <|
      M.pure (done53, (out54 ++ [x60])))
      (M.pure (done53, out54))))) (fun ⟨done47, out48⟩ =>
    M.pure (.next ((done47, (IntKind.i64.wrap (i44 + 1)), out48)))))
    (M.pure (.done (done43, out45)))
/-- epitaph/epitaphref06.put -/
def r06_put (l1 : List Int) (n2 : Int) : M (List Int) :=
  M.bind (M.loop (r06_put_l0 l1 n2) (false, 0, ([] : List Int))) (fun ⟨done3, out4⟩ =>
  M.bind (cond (!done3)
    (M.need ((List.length out4 + List.length ([n2])) * 8 ≤ 140737488355328) <|
    M.pure (out4 ++ [n2]))
    (M.pure out4)) (fun out63 =>
  M.pure out63))

def r06_points_l0 (a1 : List TRun) (b2 : List TRun) : List Int × Int → M (M.Step (List Int × Int) (List Int)) := fun ⟨out38, i39⟩ =>
  cond ((decide (i39 < (((List.length ((([] : List TRun) ++ a1) ++ b2)) : Int)))))
    (M.bind (M.bind (M.idx (((([] : List TRun) ++ a1) ++ b2)) i39) fun x42 =>
    M.bind (M.det (r06_may x42)) fun v44 =>
    cond v44
      (M.bind (M.idx (((([] : List TRun) ++ a1) ++ b2)) i39) fun x47 =>
      M.bind (M.det (r06_put out38 x47.lo)) fun v49 =>
      M.bind (M.idx (((([] : List TRun) ++ a1) ++ b2)) i39) fun x51 =>
      M.bind (M.det (r06_put v49 (IntKind.u64.wrap (x51.hi + 1)))) fun v53 =>
      M.pure v53)
      (M.pure out38)) (fun out41 =>
    M.pure (.next ((out41, (IntKind.i64.wrap (i39 + 1)))))))
    (M.pure (.done out38))
/-- epitaph/epitaphref06.points -/
def r06_points (a1 : List TRun) (b2 : List TRun) : M (List Int) :=
  M.need ((List.length ([] : List TRun) + List.length a1) * 16 ≤ 140737488355328) <|
  M.need ((List.length (([] : List TRun) ++ a1) + List.length b2) * 16 ≤ 140737488355328) <|
  M.bind (M.loop (r06_points_l0 a1 b2) (([] : List Int), 0)) (fun out5 =>
  M.pure out5)

def r06_set_l0 (v4 : List Int) (a1 : List TRun) (b2 : List TRun) (how3 : Int) : Int × List TRun → M (M.Step (Int × List TRun) (List TRun)) := fun ⟨i85, out86⟩ =>
  cond ((decide ((IntKind.i64.wrap (i85 + 1)) < (List.length v4 : Int))))
    (M.bind (M.bind (M.idx v4 i85) fun x89 =>
    M.bind (M.det (r06_Has a1 x89)) fun v91 =>
    M.bind (M.idx v4 i85) fun x93 =>
    M.bind (M.det (r06_Has b2 x93)) fun v95 =>
    M.bind (cond v91
      (M.pure true)
      (M.pure v95)) (fun in97 =>
    M.bind (cond (decide (how3 = 1))
      (M.bind (cond v91
        (M.pure v95)
        (M.pure false)) (fun in101 =>
      M.pure in101))
      (M.pure in97)) (fun in99 =>
    M.bind (cond (decide (how3 = 2))
      (M.bind (cond v91
        (M.pure (!v95))
        (M.pure false)) (fun in105 =>
      M.pure in105))
      (M.pure in99)) (fun in103 =>
    M.bind (cond in103
      (cond ((decide (0 ≤ ((IntKind.i64.wrap (((List.length out86) : Int) - 1))))))
        (M.bind (M.idx out86 ((IntKind.i64.wrap (((List.length out86) : Int) - 1)))) fun x110 =>
        M.bind (M.idx v4 i85) fun x112 =>
        M.pure ((decide ((IntKind.u64.wrap (x110.hi + 1)) = x112))))
        (M.pure false))
      (M.pure false)) (fun v107 =>
    cond v107
      (M.bind (M.idx v4 (IntKind.i64.wrap (i85 + 1))) fun x115 =>
      M.bind (M.idx out86 ((IntKind.i64.wrap (((List.length out86) : Int) - 1)))) fun x117 =>
      M.pure ((List.set out86 ((Int.toNat ((IntKind.i64.wrap (((List.length out86) : Int) - 1))))) ((⟨x117.lo, (IntKind.u64.wrap (x115 - 1))⟩ : TRun)))))
      (cond in103
        (M.bind (M.idx v4 i85) fun x120 =>
        M.bind (M.idx v4 (IntKind.i64.wrap (i85 + 1))) fun x122 =>
        M.need ((List.length out86 + List.length ([(⟨x120, (IntKind.u64.wrap (x122 - 1))⟩ : TRun)])) * 16 ≤ 140737488355328) <|
        M.pure ((out86 ++ [(⟨x120, (IntKind.u64.wrap (x122 - 1))⟩ : TRun)])))
        (M.pure out86))))))) (fun out88 =>
    M.pure (.next (((IntKind.i64.wrap (i85 + 1)), out88)))))
    (M.pure (.done out86))
/-- epitaph/epitaphref06.set -/
def r06_set (a1 : List TRun) (b2 : List TRun) (how3 : Int) : M (List TRun) :=
  M.bind (M.det (r06_points a1 b2)) fun v4 =>
  M.bind (M.loop (r06_set_l0 v4 a1 b2 how3) (0, ([] : List TRun))) (fun out6 =>
  M.pure out6)

/-- epitaph/epitaphref06.Norm -/
def r06_Norm (l1 : List TRun) : M (List TRun) :=
  M.bind (M.det (r06_set l1 ([] : List TRun) 0)) fun v2 =>
  M.pure v2

def r06_Size_l0 (v2 : List TRun) : Int × Int → M (M.Step (Int × Int) Int) := fun ⟨n17, i18⟩ =>
  cond ((decide (i18 < ((List.length v2) : Int))))
    (M.bind (M.idx v2 i18) fun x20 =>
    M.bind (M.idx v2 i18) fun x22 =>
    M.pure (.next (((IntKind.u64.wrap (((IntKind.u64.wrap ((IntKind.u64.wrap (n17 + x20.hi)) - x22.lo))) + 1)), (IntKind.i64.wrap (i18 + 1))))))
    (M.pure (.done n17))
/-- epitaph/epitaphref06.Size -/
def r06_Size (l1 : List TRun) : M Int :=
  M.bind (M.det (r06_Norm l1)) fun v2 =>
  M.bind (M.loop (r06_Size_l0 v2) (0, 0)) (fun n4 =>
  M.pure n4)

/-- epitaph/epitaphref06.Meet -/
def r06_Meet (a1 : List TRun) (b2 : List TRun) : M (List TRun) :=
  M.bind (M.det (r06_set a1 b2 1)) fun v3 =>
  M.pure v3

def slices_Equal_sl_Run_Run_l0 (s1_1 : List TRun) (s2_2 : List TRun) : Int → M (M.Step Int (M.Ex Unit Bool)) := fun v17 =>
  cond ((decide (v17 < (List.length s1_1 : Int))))
    (M.bind (M.idx s1_1 v17) fun x19 =>
    M.bind (M.idx s2_2 v17) fun x21 =>
    cond ((!(decide (x19.lo = x21.lo) && decide (x19.hi = x21.hi))))
      (M.pure (.done (.ret false)))
      (M.pure (.next (IntKind.i64.wrap (v17 + 1)))))
    (M.pure (.done (.brk ())))
/-- slices.Equal[[]epitaph/api.Run,epitaph/api.Run] -/
def slices_Equal_sl_Run_Run (s1_1 : List TRun) (s2_2 : List TRun) : M Bool :=
  cond ((!decide ((List.length s1_1 : Int) = (List.length s2_2 : Int))))
    (M.pure false)
    (M.bind (M.loop (slices_Equal_sl_Run_Run_l0 s1_1 s2_2) 0) (M.exk (fun _ =>
    M.pure true)))

/-- epitaph/runs.Good -/
def runs_Good (l1 : List TRun) : M Bool :=
  M.bind (M.det (runs_Norm l1)) fun v2 =>
  M.bind (M.det (slices_Equal_sl_Run_Run l1 v2)) fun v4 =>
  M.pure v4

/-- epitaph/epitaphref06.Good -/
def r06_Good (l1 : List TRun) : M Bool :=
  M.bind (M.det (r06_Norm l1)) fun v2 =>
  M.bind (M.det (r06_Eq l1 v2)) fun v4 =>
  M.pure v4

/-- epitaph/runs.Has$1 -/
def runs_Has_c1 (x1 : TRun) (n2 : Int) : M Int :=
  M.bind (M.det (cmp_Compare_uint64 x1.hi n2)) fun v3 =>
  M.pure v3

def slices_BinarySearchFunc_sl_Run_Run_uint64_runs_Has_c1_l0 (x1 : List TRun) (target2 : Int) : Int × Int → M (M.Step (Int × Int) Int) := fun ⟨i18, j19⟩ =>
  cond (decide (i18 < j19))
    (M.bind (M.idx x1 ((IntKind.i64.wrap ((Int.fdiv ((IntKind.u64.wrap (IntKind.i64.wrap (i18 + j19)))) (2 ^ 1)))))) fun x21 =>
    M.bind (M.det (runs_Has_c1 x21 target2)) fun v23 =>
    cond (decide (v23 < 0))
      (M.pure (.next (((IntKind.i64.wrap (((IntKind.i64.wrap ((Int.fdiv ((IntKind.u64.wrap (IntKind.i64.wrap (i18 + j19)))) (2 ^ 1))))) + 1)), j19))))
      (M.pure (.next ((i18, (IntKind.i64.wrap ((Int.fdiv ((IntKind.u64.wrap (IntKind.i64.wrap (i18 + j19)))) (2 ^ 1)))))))))
    (M.pure (.done i18))
/-- slices.BinarySearchFunc[[]epitaph/api.Run,epitaph/api.Run,uint64] -/
def slices_BinarySearchFunc_sl_Run_Run_uint64_runs_Has_c1 (x1 : List TRun) (target2 : Int) : M (Int × Bool) :=
  M.bind (M.loop (slices_BinarySearchFunc_sl_Run_Run_uint64_runs_Has_c1_l0 x1 target2) (0, (List.length x1 : Int))) (fun i3 =>
  M.bind (cond ((decide (i3 < (List.length x1 : Int))))
    (M.bind (M.idx x1 i3) fun x28 =>
    M.bind (M.det (runs_Has_c1 x28 target2)) fun v30 =>
    M.pure (decide (v30 = 0)))
    (M.pure false)) (fun v26 =>
  M.pure (i3, v26)))

/-- epitaph/runs.Has -/
def runs_Has (l1 : List TRun) (n2 : Int) : M Bool :=
  M.bind (M.det (runs_Norm l1)) fun v3 =>
  M.bind (M.det (slices_BinarySearchFunc_sl_Run_Run_uint64_runs_Has_c1 v3 n2)) fun v5 =>
  M.bind (cond ((decide (v5.1 < (List.length v3 : Int))))
    (M.bind (M.idx v3 v5.1) fun x9 =>
    M.pure (decide (x9.lo ≤ n2)))
    (M.pure false)) (fun v7 =>
  M.pure v7)

/-- slices.Grow[[]epitaph/api.Run,epitaph/api.Run] -/
def slices_Grow_sl_Run_Run_nil (n1 : Int) : M (List TRun) :=
  cond (decide (n1 < 0))
    M.fail
    (M.bind (cond ((decide (0 < ((IntKind.i64.wrap (n1 - (IntKind.i64.wrap (0 - 0))))))))
      (M.need (0 < ((IntKind.i64.wrap (n1 - (IntKind.i64.wrap (0 - 0))))) ∧ ((IntKind.i64.wrap (n1 - (IntKind.i64.wrap (0 - 0))))) * 16 ≤ 140737488355328) <|
      M.need ((0 : Int) ≤ 0 ∧ (0 : Int) ≤ 0 ∧ 0 ≤ (List.length ((List.replicate (Int.toNat ((IntKind.i64.wrap (n1 - (IntKind.i64.wrap (0 - 0)))))) (⟨0, 0⟩ : TRun))) : Int)) <|
      M.pure ((List.take (Int.toNat 0) ((List.replicate (Int.toNat ((IntKind.i64.wrap (n1 - (IntKind.i64.wrap (0 - 0)))))) (⟨0, 0⟩ : TRun))))))
      (M.pure ([]))) (fun v3 =>
    M.pure v3))

def slices_Concat_sl_Run_Run_l0 (slices1 : List (List TRun)) : Int × Int → M (M.Step (Int × Int) Int) := fun ⟨size13, v14⟩ =>
  cond ((decide (v14 < (List.length slices1 : Int))))
    (M.bind (M.idx slices1 v14) fun x16 =>
    cond ((decide (((IntKind.i64.wrap (size13 + (List.length x16 : Int)))) < 0)))
      M.fail
      (M.pure (.next (((IntKind.i64.wrap (size13 + (List.length x16 : Int))), (IntKind.i64.wrap (v14 + 1)))))))
    (M.pure (.done size13))
def slices_Concat_sl_Run_Run_l1 (slices1 : List (List TRun)) : Int × List TRun → M (M.Step (Int × List TRun) (List TRun)) := fun ⟨v32, v33⟩ =>
  cond ((decide (v32 < (List.length slices1 : Int))))
    (M.bind (M.idx slices1 v32) fun x35 =>
    M.need ((List.length v33 + List.length x35) * 16 ≤ 140737488355328) <|
    M.pure (.next (((IntKind.i64.wrap (v32 + 1)), (v33 ++ x35)))))
    (M.pure (.done v33))
/-- slices.Concat[[]epitaph/api.Run,epitaph/api.Run] -/
def slices_Concat_sl_Run_Run (slices1 : List (List TRun)) : M (List TRun) :=
  M.bind (M.loop (slices_Concat_sl_Run_Run_l0 slices1) (0, 0)) (fun size2 =>
  M.bind (M.det (slices_Grow_sl_Run_Run_nil size2)) fun v19 =>
  M.bind (M.loop (slices_Concat_sl_Run_Run_l1 slices1) (0, v19)) (fun v21 =>
  M.pure v21))

/-- epitaph/runs.Join -/
def runs_Join (a1 : List TRun) (b2 : List TRun) : M (List TRun) :=
  M.bind (M.det (slices_Concat_sl_Run_Run ([a1, b2]))) fun v3 =>
  M.bind (M.det (runs_Norm v3)) fun v5 =>
  M.pure v5

/-- epitaph/runs.Add -/
def runs_Add (l1 : List TRun) (n2 : Int) : M (List TRun) :=
  M.bind (M.det (runs_Of ([n2]))) fun v3 =>
  M.bind (M.det (runs_Join l1 v3)) fun v5 =>
  M.pure v5

/-- epitaph/epitaphref06.Join -/
def r06_Join (a1 : List TRun) (b2 : List TRun) : M (List TRun) :=
  M.bind (M.det (r06_set a1 b2 0)) fun v3 =>
  M.pure v3

/-- epitaph/epitaphref06.First -/
def r06_First (l1 : List TRun) : M Int :=
  M.bind (M.det (r06_Norm l1)) fun v2 =>
  M.bind (cond ((decide (((List.length v2) : Int) = 0)))
    (M.pure true)
    (M.bind (M.idx v2 0) fun x6 =>
    M.pure (!decide (x6.lo = 1)))) (fun v4 =>
  cond v4
    (M.pure 1)
    (M.bind (M.idx v2 0) fun x9 =>
    M.pure (IntKind.u64.wrap (x9.hi + 1))))

/-- epitaph/epitaphref06.Last -/
def r06_Last (l1 : List TRun) : M Int :=
  M.bind (M.det (r06_Norm l1)) fun v2 =>
  cond ((decide (((List.length v2) : Int) = 0)))
    (M.pure 0)
    (M.bind (M.idx v2 ((IntKind.i64.wrap (((List.length v2) : Int) - 1)))) fun x5 =>
    M.pure x5.hi)

def r06_Of_l0 (nums1 : List Int) : List TRun × Int → M (M.Step (List TRun × Int) (List TRun)) := fun ⟨out19, i20⟩ =>
  cond ((decide (i20 < (List.length nums1 : Int))))
    (M.bind (M.idx nums1 i20) fun x22 =>
    M.bind (M.idx nums1 i20) fun x24 =>
    M.bind (M.det (r06_Join out19 ([(⟨x22, x24⟩ : TRun)]))) fun v26 =>
    M.pure (.next ((v26, (IntKind.i64.wrap (i20 + 1))))))
    (M.pure (.done out19))
/-- epitaph/epitaphref06.Of -/
def r06_Of (nums1 : List Int) : M (List TRun) :=
  M.bind (M.loop (r06_Of_l0 nums1) (([] : List TRun), 0)) (fun out2 =>
  M.pure out2)

/-- epitaph/epitaphlaw06.RunsTells -/
def l06_RunsTells (l1 : List TRun) (n2 : Int) (nums3 : List Int) : M Bool :=
  M.bind (M.bind (M.det (l06_few l1)) fun v5 =>
  cond (!v5)
    (M.pure true)
    (M.pure ((decide (60 < (List.length nums3 : Int)))))) (fun v4 =>
  cond v4
    (M.bind (M.det (l06_works)) fun v9 =>
    M.pure v9)
    (M.bind (M.bind (M.det (runs_Norm l1)) fun v12 =>
    M.bind (M.det (r06_Norm l1)) fun v14 =>
    M.bind (M.det (r06_Eq v12 v14)) fun v16 =>
    cond v16
      (M.bind (M.det (runs_Good l1)) fun v19 =>
      M.bind (M.det (r06_Good l1)) fun v21 =>
      cond (v19 == v21)
        (M.bind (M.det (runs_Has l1 n2)) fun v24 =>
        M.bind (M.det (r06_Has l1 n2)) fun v26 =>
        cond (v24 == v26)
          (M.bind (M.det (runs_Add l1 n2)) fun v29 =>
          M.bind (M.det (r06_Join l1 ([(⟨n2, n2⟩ : TRun)]))) fun v31 =>
          M.bind (M.det (r06_Eq v29 v31)) fun v33 =>
          cond v33
            (M.bind (M.det (runs_Size l1)) fun v36 =>
            M.bind (M.det (r06_Size l1)) fun v38 =>
            cond (decide (v36 = v38))
              (M.bind (M.det (runs_First l1)) fun v41 =>
              M.bind (M.det (r06_First l1)) fun v43 =>
              cond (decide (v41 = v43))
                (M.bind (M.det (runs_Last l1)) fun v46 =>
                M.bind (M.det (r06_Last l1)) fun v48 =>
                cond (decide (v46 = v48))
                  (M.bind (M.det (runs_Of nums3)) fun v51 =>
                  M.bind (M.det (r06_Of nums3)) fun v53 =>
                  M.bind (M.det (r06_Eq v51 v53)) fun v55 =>
                  cond v55
                    (M.bind (M.det (l06_works)) fun v58 =>
                    M.pure v58)
                    (M.pure false))
                  (M.pure false))
                (M.pure false))
              (M.pure false))
            (M.pure false))
          (M.pure false))
        (M.pure false))
      (M.pure false)) (fun v11 =>
    M.pure v11)))

def l06_RunsOrder_l0 (nums1 : List Int) (from2 : Int) : List TRun × List TRun × Int → M (M.Step (List TRun × List TRun × Int) (List TRun × List TRun)) := fun ⟨a31, b32, i33⟩ =>
  cond ((decide (i33 < (List.length nums1 : Int))))
    (M.bind (M.idx nums1 i33) fun x35 =>
    M.bind (M.det (runs_Add a31 x35)) fun v37 =>
    M.need ((List.length nums1 : Int) ≠ 0) <|
    M.bind (M.idx nums1 ((Int.tmod ((IntKind.i64.wrap (((IntKind.i64.wrap (((IntKind.i64.wrap ((List.length nums1 : Int) - 1))) - i33))) + (IntKind.i64.wrap from2)))) (List.length nums1 : Int)))) fun x40 =>
    M.bind (M.det (runs_Add b32 x40)) fun v42 =>
    M.pure (.next ((v37, v42, (IntKind.i64.wrap (i33 + 1))))))
    (M.pure (.done (a31, b32)))
/-- epitaph/epitaphlaw06.RunsOrder -/
def l06_RunsOrder (nums1 : List Int) (from2 : Int) : M Bool :=
  cond ((decide (200 < (List.length nums1 : Int))))
    (M.bind (M.det (l06_works)) fun v4 =>
    M.pure v4)
    (M.bind (M.loop (l06_RunsOrder_l0 nums1 from2) (([] : List TRun), ([] : List TRun), 0)) (fun ⟨a6, b7⟩ =>
    M.bind (M.det (runs_First a6)) fun v44 =>
    M.bind (M.bind (M.det (r06_Eq a6 b7)) fun v47 =>
    cond v47
      (M.bind (M.det (runs_Of nums1)) fun v50 =>
      M.bind (M.det (r06_Eq v50 a6)) fun v52 =>
      cond v52
        (M.bind (M.det (runs_Good a6)) fun v55 =>
        cond v55
          (M.bind (M.det (runs_Has a6 v44)) fun v58 =>
          cond (!v58)
            (cond (decide (v44 = 1))
              (M.bind (M.det (l06_works)) fun v62 =>
              M.pure v62)
              (M.bind (M.det (runs_Has a6 (IntKind.u64.wrap (v44 - 1)))) fun v64 =>
              cond v64
                (M.bind (M.det (l06_works)) fun v67 =>
                M.pure v67)
                (M.pure false)))
            (M.pure false))
          (M.pure false))
        (M.pure false))
      (M.pure false)) (fun v46 =>
    M.pure v46)))

def runs_Meet_l0  : List TRun × List TRun × List TRun → M (M.Step (List TRun × List TRun × List TRun) (List TRun)) := fun ⟨a53, b54, out55⟩ =>
  M.bind (cond ((decide (0 < (List.length a53 : Int))))
    (M.pure ((decide (0 < (List.length b54 : Int)))))
    (M.pure false)) (fun v56 =>
  cond v56
    (M.bind (M.idx a53 0) fun x59 =>
    M.bind (M.idx b54 0) fun x61 =>
    M.bind (M.idx a53 0) fun x63 =>
    M.bind (M.idx b54 0) fun x65 =>
    M.bind (cond ((decide ((max x59.lo x61.lo) ≤ (min x63.hi x65.hi))))
      (M.need ((List.length out55 + List.length ([(⟨(max x59.lo x61.lo), (min x63.hi x65.hi)⟩ : TRun)])) * 16 ≤ 140737488355328) <|
      M.pure ((out55 ++ [(⟨(max x59.lo x61.lo), (min x63.hi x65.hi)⟩ : TRun)])))
      (M.pure out55)) (fun out67 =>
    M.bind (M.idx a53 0) fun x70 =>
    M.bind (M.idx b54 0) fun x72 =>
    cond (decide (x70.hi < x72.hi))
      (M.need ((0 : Int) ≤ 1 ∧ (1 : Int) ≤ (List.length a53 : Int) ∧ (List.length a53 : Int) ≤ (List.length a53 : Int)) <|
      M.pure (.next (((List.drop (Int.toNat 1) (List.take (Int.toNat (List.length a53 : Int)) a53)), b54, out67))))
      (M.need ((0 : Int) ≤ 1 ∧ (1 : Int) ≤ (List.length b54 : Int) ∧ (List.length b54 : Int) ≤ (List.length b54 : Int)) <|
      M.pure (.next ((a53, (List.drop (Int.toNat 1) (List.take (Int.toNat (List.length b54 : Int)) b54)), out67))))))
    (M.pure (.done out55)))
/-- epitaph/runs.Meet -/
def runs_Meet (a1 : List TRun) (b2 : List TRun) : M (List TRun) :=
  M.bind (M.det (runs_Norm a1)) fun v3 =>
  M.bind (M.det (runs_Norm b2)) fun v5 =>
  M.bind (M.loop runs_Meet_l0 (v3, v5, ([] : List TRun))) (fun out7 =>
  M.pure out7)

def runs_rest_l0 (v2 : List TRun) : Int × Int × List TRun → M (M.Step (Int × Int × List TRun) (Int × List TRun)) := fun ⟨at17, v18, out19⟩ =>
  cond ((decide (v18 < ((List.length v2) : Int))))
    (M.bind (M.idx v2 v18) fun x21 =>
    M.need ((List.length out19 + List.length ([(⟨at17, (IntKind.u64.wrap (x21.lo - 1))⟩ : TRun)])) * 16 ≤ 140737488355328) <|
    M.pure (.next (((IntKind.u64.wrap (x21.hi + 1)), (IntKind.i64.wrap (v18 + 1)), (out19 ++ [(⟨at17, (IntKind.u64.wrap (x21.lo - 1))⟩ : TRun)])))))
    (M.pure (.done (at17, out19)))
/-- epitaph/runs.rest -/
def runs_rest (l1 : List TRun) : M (List TRun) :=
  M.bind (M.det (runs_Norm l1)) fun v2 =>
  M.bind (M.loop (runs_rest_l0 v2) (1, 0, ([] : List TRun))) (fun ⟨at4, out5⟩ =>
  M.need ((List.length out5 + List.length ([(⟨at4, 281474976710655⟩ : TRun)])) * 16 ≤ 140737488355328) <|
  M.pure (out5 ++ [(⟨at4, 281474976710655⟩ : TRun)]))

/-- epitaph/runs.Minus -/
def runs_Minus (a1 : List TRun) (b2 : List TRun) : M (List TRun) :=
  M.bind (M.det (runs_rest b2)) fun v3 =>
  M.bind (M.det (runs_Meet a1 v3)) fun v5 =>
  M.pure v5

/-- epitaph/epitaphref06.Minus -/
def r06_Minus (a1 : List TRun) (b2 : List TRun) : M (List TRun) :=
  M.bind (M.det (r06_set a1 b2 2)) fun v3 =>
  M.pure v3

/-- epitaph/runs.Within -/
def runs_Within (a1 : List TRun) (b2 : List TRun) : M Bool :=
  M.bind (M.det (runs_Minus a1 b2)) fun v3 =>
  M.pure ((decide (((List.length v3) : Int) = 0)))

/-- epitaph/runs.Same -/
def runs_Same (a1 : List TRun) (b2 : List TRun) : M Bool :=
  M.bind (M.det (runs_Norm a1)) fun v3 =>
  M.bind (M.det (runs_Norm b2)) fun v5 =>
  M.bind (M.det (slices_Equal_sl_Run_Run v3 v5)) fun v7 =>
  M.pure v7

/-- epitaph/epitaphlaw06.RunsSets -/
def l06_RunsSets (a1 : List TRun) (b2 : List TRun) : M Bool :=
  M.bind (M.bind (M.det (l06_few a1)) fun v4 =>
  cond (!v4)
    (M.pure true)
    (M.bind (M.det (l06_few b2)) fun v7 =>
    M.pure (!v7))) (fun v3 =>
  cond v3
    (M.bind (M.det (l06_works)) fun v10 =>
    M.pure v10)
    (M.bind (M.bind (M.det (runs_Join a1 b2)) fun v13 =>
    M.bind (M.det (r06_Join a1 b2)) fun v15 =>
    M.bind (M.det (r06_Eq v13 v15)) fun v17 =>
    cond v17
      (M.bind (M.det (runs_Meet a1 b2)) fun v20 =>
      M.bind (M.det (r06_Meet a1 b2)) fun v22 =>
      M.bind (M.det (r06_Eq v20 v22)) fun v24 =>
      cond v24
        (M.bind (M.det (runs_Minus a1 b2)) fun v27 =>
        M.bind (M.det (r06_Minus a1 b2)) fun v29 =>
        M.bind (M.det (r06_Eq v27 v29)) fun v31 =>
        cond v31
          (M.bind (M.det (runs_Within a1 b2)) fun v34 =>
          M.bind (M.det (r06_Minus a1 b2)) fun v36 =>
          cond ((v34 == ((decide (((List.length v36) : Int) = 0)))))
            (M.bind (M.det (runs_Same a1 b2)) fun v39 =>
            M.bind (M.det (r06_Norm a1)) fun v41 =>
            M.bind (M.det (r06_Norm b2)) fun v43 =>
            M.bind (M.det (r06_Eq v41 v43)) fun v45 =>
            cond (v39 == v45)
              (M.bind (M.det (l06_works)) fun v48 =>
              M.pure v48)
              (M.pure false))
            (M.pure false))
          (M.pure false))
        (M.pure false))
      (M.pure false)) (fun v12 =>
    M.pure v12)))

/-- epitaph/epitaphlaw06.RunsLaws -/
def l06_RunsLaws (a1 : List TRun) (b2 : List TRun) (n3 : Int) : M Bool :=
  M.bind (M.det (runs_Join a1 b2)) fun v4 =>
  M.bind (M.det (runs_Meet a1 b2)) fun v6 =>
  M.bind (M.det (runs_Minus a1 b2)) fun v8 =>
  M.bind (M.bind (M.det (runs_Has v4 n3)) fun v13 =>
  M.bind (M.det (runs_Has a1 n3)) fun v15 =>
  cond v15
    (cond (!(v13 == true))
      (M.pure (v6, v8, true))
      (M.bind (M.det (runs_Has v6 n3)) fun v19 =>
      M.bind (M.det (runs_Has a1 n3)) fun v21 =>
      cond v21
        (M.bind (M.det (runs_Has b2 n3)) fun v24 =>
        cond (!(v19 == v24))
          (M.pure (v6, v8, true))
          (M.bind (M.det (runs_Has v8 n3)) fun v27 =>
          M.bind (M.det (runs_Has a1 n3)) fun v29 =>
          cond v29
            (M.bind (M.det (runs_Has b2 n3)) fun v32 =>
            M.pure ((v6, v8, (!(v27 == (!v32))))))
            (M.pure ((v6, v8, (!(v27 == false)))))))
        (cond (!(v19 == false))
          (M.pure (v6, v8, true))
          (M.bind (M.det (runs_Has v8 n3)) fun v35 =>
          M.bind (M.det (runs_Has a1 n3)) fun v37 =>
          cond v37
            (M.bind (M.det (runs_Has b2 n3)) fun v40 =>
            M.pure ((v6, v8, (!(v35 == (!v40))))))
            (M.pure ((v6, v8, (!(v35 == false)))))))))
    (M.bind (M.det (runs_Has b2 n3)) fun v42 =>
    cond (!(v13 == v42))
      (M.pure (v6, v8, true))
      (M.bind (M.det (runs_Has v6 n3)) fun v45 =>
      M.bind (M.det (runs_Has a1 n3)) fun v47 =>
      cond v47
        (M.bind (M.det (runs_Has b2 n3)) fun v50 =>
        cond (!(v45 == v50))
          (M.pure (v6, v8, true))
          (M.bind (M.det (runs_Has v8 n3)) fun v53 =>
          M.bind (M.det (runs_Has a1 n3)) fun v55 =>
          cond v55
            (M.bind (M.det (runs_Has b2 n3)) fun v58 =>
            M.pure ((v6, v8, (!(v53 == (!v58))))))
            (M.pure ((v6, v8, (!(v53 == false)))))))
        (cond (!(v45 == false))
          (M.pure (v6, v8, true))
          (M.bind (M.det (runs_Has v8 n3)) fun v61 =>
          M.bind (M.det (runs_Has a1 n3)) fun v63 =>
          cond v63
            (M.bind (M.det (runs_Has b2 n3)) fun v66 =>
            M.pure ((v6, v8, (!(v61 == (!v66))))))
            (M.pure ((v6, v8, (!(v61 == false)))))))))) (fun ⟨m10, d11, v12⟩ =>
  cond v12
    (M.pure false)
    (M.bind (M.bind (M.det (runs_Size v4)) fun v70 =>
    M.bind (M.det (runs_Size m10)) fun v72 =>
    M.bind (M.det (runs_Size a1)) fun v74 =>
    M.bind (M.det (runs_Size b2)) fun v76 =>
    cond ((decide ((IntKind.u64.wrap (v70 + v72)) = (IntKind.u64.wrap (v74 + v76)))))
      (M.bind (M.det (runs_Join b2 a1)) fun v79 =>
      M.bind (M.det (r06_Eq v79 v4)) fun v81 =>
      cond v81
        (M.bind (M.det (runs_Meet b2 a1)) fun v84 =>
        M.bind (M.det (r06_Eq v84 m10)) fun v86 =>
        cond v86
          (M.bind (M.det (runs_Join d11 m10)) fun v89 =>
          M.bind (M.det (runs_Same v89 a1)) fun v91 =>
          cond v91
            (M.bind (M.det (runs_Meet d11 b2)) fun v94 =>
            cond ((decide (((List.length v94) : Int) = 0)))
              (M.bind (M.det (runs_Within m10 a1)) fun v97 =>
              cond v97
                (M.bind (M.det (runs_Within a1 v4)) fun v100 =>
                cond v100
                  (M.bind (M.det (runs_Good v4)) fun v103 =>
                  cond v103
                    (M.bind (M.det (runs_Good m10)) fun v106 =>
                    cond v106
                      (M.bind (M.det (runs_Good d11)) fun v109 =>
                      cond v109
                        (M.bind (M.det (l06_works)) fun v112 =>
                        M.pure v112)
                        (M.pure false))
                      (M.pure false))
                    (M.pure false))
                  (M.pure false))
                (M.pure false))
              (M.pure false))
            (M.pure false))
          (M.pure false))
        (M.pure false))
      (M.pure false)) (fun v69 =>
    M.pure v69)))
end Go.Ep
