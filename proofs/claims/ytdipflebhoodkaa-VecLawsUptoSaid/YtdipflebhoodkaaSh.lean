/- What the functions compute, plainly: written by program. -/
import Derived.Test.YtdipflebhoodkaaLt
namespace Go.Ep
open Go

/-- epitaph/epitaphlaw08.few -/
def l08_few (v1 : List TDot) : M Bool :=
  M.pure ((decide ((List.length v1 : Int) ≤ 100)))

def r07_Same_l0 (a1 : List TDot) (b2 : List TDot) : Int → M (M.Step Int (M.Ex Unit Bool)) := fun i17 =>
  cond ((decide (i17 < (List.length a1 : Int))))
    (M.bind (M.idx a1 i17) fun x19 =>
    M.bind (M.idx b2 i17) fun x21 =>
    cond ((!(decide (x19.dev = x21.dev) && decide (x19.n = x21.n))))
      (M.pure (.done (.ret false)))
      (M.pure (.next (IntKind.i64.wrap (i17 + 1)))))
    (M.pure (.done (.brk ())))
/-- epitaph/epitaphref07.Same -/
def r07_Same (a1 : List TDot) (b2 : List TDot) : M Bool :=
  cond ((!decide ((List.length a1 : Int) = (List.length b2 : Int))))
    (M.pure false)
    (M.bind (M.loop (r07_Same_l0 a1 b2) 0) (M.exk (fun _ =>
    M.pure true)))

/-- epitaph/dot.Good -/
def dot_Good (d1 : TDot) : M Bool :=
  M.bind (cond (decide (0 < d1.dev))
    (cond (decide (0 < d1.n))
      (M.pure (decide (d1.n ≤ 281474976710655)))
      (M.pure false))
    (M.pure false)) (fun v2 =>
  M.pure v2)

def vec_told_l0 (v1 : List TDot) : Int × (List (Int × Int)) → M (M.Step (Int × (List (Int × Int))) (List (Int × Int))) := fun ⟨v27, v28⟩ =>
  cond ((decide (v27 < (List.length v1 : Int))))
    (M.bind (M.bind (M.idx v1 v27) fun x35 =>
    M.bind (M.det (dot_Good x35)) fun v37 =>
    cond v37
      (M.pure ((AL.set v28 x35.dev (max (AL.getZ v28 x35.dev 0) x35.n))))
      (M.pure v28)) (fun v32 =>
    M.pure (.next (((IntKind.i64.wrap (v27 + 1)), v32)))))
    (M.pure (.done v28))
/-- epitaph/vec.told -/
def vec_told (v1 : List TDot) : M (List (Int × Int)) :=
  M.bind (M.loop (vec_told_l0 v1) ((0, ([] : List (Int × Int))))) (fun v2 =>
  M.pure v2)

/-- cmp.isNaN[uint16] -/
def cmp_isNaN_uint16 (x1 : Int) : M Bool :=
  M.pure (!decide (x1 = x1))

/-- cmp.Compare[uint16] -/
def cmp_Compare_uint16 (x1 : Int) (y2 : Int) : M Int :=
  M.bind (M.det (cmp_isNaN_uint16 x1)) fun v3 =>
  M.bind (M.det (cmp_isNaN_uint16 y2)) fun v5 =>
  cond v3
    (cond v5
      (M.pure 0)
      (M.pure (-1)))
    (cond v5
      (M.pure 1)
      (cond (decide (x1 < y2))
        (M.pure (-1))
        (cond (decide (y2 < x1))
          (M.pure 1)
          (M.pure 0))))

/-- cmp.isNaN[uint64] -/
def cmp_isNaN_uint64 (x1 : Int) : M Bool :=
  M.pure (!decide (x1 = x1))

/-- cmp.Compare[uint64] -/
def cmp_Compare_uint64 (x1 : Int) (y2 : Int) : M Int :=
  M.bind (M.det (cmp_isNaN_uint64 x1)) fun v3 =>
  M.bind (M.det (cmp_isNaN_uint64 y2)) fun v5 =>
  cond v3
    (cond v5
      (M.pure 0)
      (M.pure (-1)))
    (cond v5
      (M.pure 1)
      (cond (decide (x1 < y2))
        (M.pure (-1))
        (cond (decide (y2 < x1))
          (M.pure 1)
          (M.pure 0))))

/-- epitaph/dot.Cmp -/
def dot_Cmp (a1 : TDot) (b2 : TDot) : M Int :=
  M.bind (M.det (cmp_Compare_uint16 a1.dev b2.dev)) fun v3 =>
  cond (!decide (v3 = 0))
    (M.pure v3)
    (M.bind (M.det (cmp_Compare_uint64 a1.n b2.n)) fun v6 =>
    M.pure v6)

def vec_order_l0 (m1 : List (Int × Int)) : List Nat × List TDot → M (M.Step (List Nat × List TDot) (List TDot)) := fun ⟨seen24, v25⟩ =>
  M.need (∀ i ∈ seen24, i < List.length m1) <| M.bind (M.nxt (List.length m1) seen24) fun o => match o with
  | none =>
    M.pure (.done v25)
  | some j26 =>
    M.bind (M.idx m1 (Int.ofNat j26)) fun kv30 =>
    cond (decide (0 < kv30.2))
      (M.need ((List.length v25 + List.length ([(⟨kv30.1, kv30.2⟩ : TDot)])) * 16 ≤ 140737488355328) <|
      M.pure (.next (((seen24 ++ [j26]), (v25 ++ [(⟨kv30.1, kv30.2⟩ : TDot)])))))
      (M.pure (.next ((seen24 ++ [j26]), v25)))
/-- epitaph/vec.order -/
def vec_order (m1 : List (Int × Int)) : M (List TDot) :=
  M.bind (M.loop (vec_order_l0 m1) ([], ([] : List TDot))) (fun v3 =>
  M.need (List.length v3 < 4611686018427387904) <| M.bind (M.srt ltDot v3) fun s35 =>
  M.pure s35)

/-- epitaph/vec.Norm -/
def vec_Norm (v1 : List TDot) : M (List TDot) :=
  M.bind (M.det (vec_told v1)) fun v2 =>
  M.bind (M.det (vec_order v2)) fun v5 =>
  M.pure v5

/-- slices.Grow[epitaph/api.Vec,epitaph/api.Dot] -/
def slices_Grow_Vec_Dot_nil (n1 : Int) : M (List TDot) :=
  cond (decide (n1 < 0))
    M.fail
    (M.bind (cond ((decide (0 < ((IntKind.i64.wrap (n1 - (IntKind.i64.wrap (0 - 0))))))))
      (M.need (0 < ((IntKind.i64.wrap (n1 - (IntKind.i64.wrap (0 - 0))))) ∧ ((IntKind.i64.wrap (n1 - (IntKind.i64.wrap (0 - 0))))) * 16 ≤ 140737488355328) <|
      M.need ((0 : Int) ≤ 0 ∧ (0 : Int) ≤ 0 ∧ 0 ≤ (List.length ((List.replicate (Int.toNat ((IntKind.i64.wrap (n1 - (IntKind.i64.wrap (0 - 0)))))) (⟨0, 0⟩ : TDot))) : Int)) <|
      M.pure ((List.take (Int.toNat 0) ((List.replicate (Int.toNat ((IntKind.i64.wrap (n1 - (IntKind.i64.wrap (0 - 0)))))) (⟨0, 0⟩ : TDot))))))
      (M.pure ([]))) (fun v3 =>
    M.pure v3))

def slices_Concat_Vec_Dot_l0 (slices1 : List (List TDot)) : Int × Int → M (M.Step (Int × Int) Int) := fun ⟨size13, v14⟩ =>
  cond ((decide (v14 < (List.length slices1 : Int))))
    (M.bind (M.idx slices1 v14) fun x16 =>
    cond ((decide (((IntKind.i64.wrap (size13 + (List.length x16 : Int)))) < 0)))
      M.fail
      (M.pure (.next (((IntKind.i64.wrap (size13 + (List.length x16 : Int))), (IntKind.i64.wrap (v14 + 1)))))))
    (M.pure (.done size13))
def slices_Concat_Vec_Dot_l1 (slices1 : List (List TDot)) : Int × List TDot → M (M.Step (Int × List TDot) (List TDot)) := fun ⟨v32, v33⟩ =>
  cond ((decide (v32 < (List.length slices1 : Int))))
    (M.bind (M.idx slices1 v32) fun x35 =>
    M.need ((List.length v33 + List.length x35) * 16 ≤ 140737488355328) <|
    M.pure (.next (((IntKind.i64.wrap (v32 + 1)), (v33 ++ x35)))))
    (M.pure (.done v33))
/-- slices.Concat[epitaph/api.Vec,epitaph/api.Dot] -/
def slices_Concat_Vec_Dot (slices1 : List (List TDot)) : M (List TDot) :=
  M.bind (M.loop (slices_Concat_Vec_Dot_l0 slices1) (0, 0)) (fun size2 =>
  M.bind (M.det (slices_Grow_Vec_Dot_nil size2)) fun v19 =>
  M.bind (M.loop (slices_Concat_Vec_Dot_l1 slices1) (0, v19)) (fun v21 =>
  M.pure v21))

/-- epitaph/vec.Join -/
def vec_Join (a1 : List TDot) (b2 : List TDot) : M (List TDot) :=
  M.bind (M.det (slices_Concat_Vec_Dot ([a1, b2]))) fun v3 =>
  M.bind (M.det (vec_Norm v3)) fun v5 =>
  M.pure v5

def vec_Meet_l0 (v6 : List (Int × Int)) : List Nat × (List (Int × Int)) → M (M.Step (List Nat × (List (Int × Int))) (List (Int × Int))) := fun ⟨seen28, v29⟩ =>
  M.need (∀ i ∈ seen28, i < List.length v29) <| M.bind (M.nxt (List.length v29) seen28) fun o => match o with
  | none =>
    M.pure (.done v29)
  | some j30 =>
    M.bind (M.idx v29 (Int.ofNat j30)) fun kv34 =>
    M.need (AL.has v29 kv34.1 = true) <|
    M.pure (.next (((seen28 ++ [j30]), (AL.set v29 kv34.1 (min kv34.2 (AL.getZ v6 kv34.1 0))))))
/-- epitaph/vec.Meet -/
def vec_Meet (a1 : List TDot) (b2 : List TDot) : M (List TDot) :=
  M.bind (M.det (vec_told a1)) fun v3 =>
  M.bind (M.det (vec_told b2)) fun v6 =>
  M.bind (M.loop (vec_Meet_l0 v6) ([], v3)) (fun v9 =>
  M.bind (M.det (vec_order v9)) fun v38 =>
  M.pure v38)

def vec_Lack_l0 (v6 : List (Int × Int)) (v3 : List (Int × Int)) : Int × List Nat → M (M.Step (Int × List Nat) Int) := fun ⟨n26, seen27⟩ =>
  M.need (∀ i ∈ seen27, i < List.length v6) <| M.bind (M.nxt (List.length v6) seen27) fun o => match o with
  | none =>
    M.pure (.done n26)
  | some j28 =>
    M.bind (M.idx v6 (Int.ofNat j28)) fun kv32 =>
    M.pure (.next (((IntKind.u64.wrap (n26 + ((IntKind.u64.wrap ((max kv32.2 (AL.getZ v3 kv32.1 0)) - (AL.getZ v3 kv32.1 0)))))), (seen27 ++ [j28]))))
/-- epitaph/vec.Lack -/
def vec_Lack (a1 : List TDot) (b2 : List TDot) : M Int :=
  M.bind (M.det (vec_told a1)) fun v3 =>
  M.bind (M.det (vec_told b2)) fun v6 =>
  M.bind (M.loop (vec_Lack_l0 v6 v3) (0, [])) (fun n9 =>
  M.pure n9)

/-- epitaph/vec.Order -/
def vec_Order (a1 : List TDot) (b2 : List TDot) : M Int :=
  M.bind (M.det (vec_Lack b2 a1)) fun v3 =>
  M.bind (M.det (vec_Lack a1 b2)) fun v5 =>
  M.bind (cond (decide (v3 = 0))
    (M.pure (decide (v5 = 0)))
    (M.pure false)) (fun v7 =>
  cond v7
    (M.pure 0)
    (cond (decide (v3 = 0))
      (M.pure (-1))
      (cond (decide (v5 = 0))
        (M.pure 1)
        (M.pure 2))))

/-- epitaph/epitaphlaw08.works -/
def l08_works  : M Bool :=
  M.bind (M.bind (M.det (vec_Join ([(⟨1, 3⟩ : TDot), (⟨2, 1⟩ : TDot)]) ([(⟨2, 4⟩ : TDot)]))) fun v2 =>
  M.bind (M.det (r07_Same v2 ([(⟨1, 3⟩ : TDot), (⟨2, 4⟩ : TDot)]))) fun v4 =>
  cond v4
    (M.bind (M.det (vec_Meet ([(⟨1, 3⟩ : TDot), (⟨2, 1⟩ : TDot)]) ([(⟨2, 4⟩ : TDot)]))) fun v7 =>
    M.need ((0 : Int) ≤ 1 ∧ (1 : Int) ≤ ((List.length ([(⟨1, 3⟩ : TDot), (⟨2, 1⟩ : TDot)]) : Int)) ∧ ((List.length ([(⟨1, 3⟩ : TDot), (⟨2, 1⟩ : TDot)]) : Int)) ≤ (List.length ([(⟨1, 3⟩ : TDot), (⟨2, 1⟩ : TDot)]) : Int)) <|
    M.bind (M.det (r07_Same v7 ((List.drop (Int.toNat 1) (List.take (Int.toNat ((List.length ([(⟨1, 3⟩ : TDot), (⟨2, 1⟩ : TDot)]) : Int))) ([(⟨1, 3⟩ : TDot), (⟨2, 1⟩ : TDot)])))))) fun v10 =>
    cond v10
      (M.bind (M.det (vec_Order ([(⟨1, 3⟩ : TDot), (⟨2, 1⟩ : TDot)]) ([(⟨2, 4⟩ : TDot)]))) fun v13 =>
      cond (decide (v13 = 2))
        (M.bind (M.det (vec_Lack ([(⟨1, 3⟩ : TDot), (⟨2, 1⟩ : TDot)]) ([(⟨2, 4⟩ : TDot)]))) fun v16 =>
        M.pure (decide (v16 = 3)))
        (M.pure false))
      (M.pure false))
    (M.pure false)) (fun v1 =>
  M.pure v1)

/-- epitaph/epitaphref07.Good -/
def r07_Good (d1 : TDot) : M Bool :=
  M.bind (cond (decide (1 ≤ d1.dev))
    (cond (decide (1 ≤ d1.n))
      (M.pure (decide (d1.n < 281474976710656)))
      (M.pure false))
    (M.pure false)) (fun v2 =>
  M.pure v2)

def r08_Of_l0 (v1 : List TDot) (dev2 : Int) : Int × Int → M (M.Step (Int × Int) Int) := fun ⟨n38, i39⟩ =>
  cond ((decide (i39 < (List.length v1 : Int))))
    (M.bind (M.bind (M.bind (M.idx v1 i39) fun x43 =>
    cond (decide (x43.dev = dev2))
      (M.bind (M.idx v1 i39) fun x46 =>
      M.bind (M.det (r07_Good x46)) fun v48 =>
      cond v48
        (M.bind (M.idx v1 i39) fun x51 =>
        M.pure (decide (n38 < x51.n)))
        (M.pure false))
      (M.pure false)) (fun v42 =>
    cond v42
      (M.bind (M.idx v1 i39) fun x54 =>
      M.pure x54.n)
      (M.pure n38))) (fun n41 =>
    M.pure (.next ((n41, (IntKind.i64.wrap (i39 + 1)))))))
    (M.pure (.done n38))
/-- epitaph/epitaphref08.Of -/
def r08_Of (v1 : List TDot) (dev2 : Int) : M Int :=
  M.bind (M.loop (r08_Of_l0 v1 dev2) (0, 0)) (fun n3 =>
  M.pure n3)

/-- epitaph/epitaphref07.Cmp -/
def r07_Cmp (a1 : TDot) (b2 : TDot) : M Int :=
  cond (((decide (a1.dev = b2.dev) && decide (a1.n = b2.n))))
    (M.pure 0)
    (M.bind (cond (decide (a1.dev < b2.dev))
      (M.pure true)
      (cond (decide (a1.dev = b2.dev))
        (M.pure (decide (a1.n < b2.n)))
        (M.pure false))) (fun v4 =>
    cond v4
      (M.pure (-1))
      (M.pure 1)))

def r07_Put_l0 (l1 : List TDot) (d2 : TDot) : Int × List TDot → M (M.Step (Int × List TDot) (List TDot)) := fun ⟨i26, out27⟩ =>
  cond ((decide (i26 < (List.length l1 : Int))))
    (M.bind (M.bind (M.idx l1 i26) fun x30 =>
    M.bind (M.det (r07_Cmp x30 d2)) fun v32 =>
    cond (decide (v32 < 0))
      (M.bind (M.idx l1 i26) fun x35 =>
      M.need ((List.length out27 + List.length ([x35])) * 16 ≤ 140737488355328) <|
      M.pure (out27 ++ [x35]))
      (M.pure out27)) (fun out29 =>
    M.pure (.next (((IntKind.i64.wrap (i26 + 1)), out29)))))
    (M.pure (.done out27))
def r07_Put_l1 (l1 : List TDot) (d2 : TDot) : Int × List TDot → M (M.Step (Int × List TDot) (List TDot)) := fun ⟨i62, out63⟩ =>
  cond ((decide (i62 < (List.length l1 : Int))))
    (M.bind (M.bind (M.idx l1 i62) fun x66 =>
    M.bind (M.det (r07_Cmp x66 d2)) fun v68 =>
    cond (decide (0 < v68))
      (M.bind (M.idx l1 i62) fun x71 =>
      M.need ((List.length out63 + List.length ([x71])) * 16 ≤ 140737488355328) <|
      M.pure (out63 ++ [x71]))
      (M.pure out63)) (fun out65 =>
    M.pure (.next (((IntKind.i64.wrap (i62 + 1)), out65)))))
    (M.pure (.done out63))
/-- epitaph/epitaphref07.Put -/
def r07_Put (l1 : List TDot) (d2 : TDot) : M (List TDot) :=
  M.bind (M.loop (r07_Put_l0 l1 d2) (0, ([] : List TDot))) (fun out3 =>
  M.need ((List.length out3 + List.length ([d2])) * 16 ≤ 140737488355328) <|
  M.bind (M.loop (r07_Put_l1 l1 d2) (0, (out3 ++ [d2]))) (fun out39 =>
  M.pure out39))

def r08_devs_l0 (a1 : List TDot) (b2 : List TDot) : List TDot × Int → M (M.Step (List TDot × Int) (List TDot)) := fun ⟨out30, i31⟩ =>
  cond ((decide (i31 < (((List.length ((([] : List TDot) ++ a1) ++ b2)) : Int)))))
    (M.bind (M.bind (M.idx (((([] : List TDot) ++ a1) ++ b2)) i31) fun x34 =>
    M.bind (M.det (r07_Good x34)) fun v36 =>
    cond v36
      (M.bind (M.idx (((([] : List TDot) ++ a1) ++ b2)) i31) fun x39 =>
      M.bind (M.det (r07_Put out30 (⟨x39.dev, 1⟩ : TDot))) fun v41 =>
      M.pure v41)
      (M.pure out30)) (fun out33 =>
    M.pure (.next ((out33, (IntKind.i64.wrap (i31 + 1)))))))
    (M.pure (.done out30))
/-- epitaph/epitaphref08.devs -/
def r08_devs (a1 : List TDot) (b2 : List TDot) : M (List TDot) :=
  M.need ((List.length ([] : List TDot) + List.length a1) * 16 ≤ 140737488355328) <|
  M.need ((List.length (([] : List TDot) ++ a1) + List.length b2) * 16 ≤ 140737488355328) <|
  M.bind (M.loop (r08_devs_l0 a1 b2) (([] : List TDot), 0)) (fun out5 =>
  M.pure out5)

def r08_both_l0 (v4 : List TDot) (a1 : List TDot) (b2 : List TDot) (greater3 : Bool) : Int × List TDot → M (M.Step (Int × List TDot) (List TDot)) := fun ⟨i41, out42⟩ =>
  cond ((decide (i41 < (List.length v4 : Int))))
    (M.bind (M.bind (M.idx v4 i41) fun x45 =>
    M.bind (M.det (r08_Of a1 x45.dev)) fun v47 =>
    M.bind (M.idx v4 i41) fun x49 =>
    M.bind (M.det (r08_Of b2 x49.dev)) fun v51 =>
    M.bind (cond ((greater3 == (decide (v47 < v51))))
      (M.pure v51)
      (M.pure v47)) (fun x53 =>
    cond (decide (0 < x53))
      (M.bind (M.idx v4 i41) fun x56 =>
      M.need ((List.length out42 + List.length ([(⟨x56.dev, x53⟩ : TDot)])) * 16 ≤ 140737488355328) <|
      M.pure (out42 ++ [(⟨x56.dev, x53⟩ : TDot)]))
      (M.pure out42))) (fun out44 =>
    M.pure (.next (((IntKind.i64.wrap (i41 + 1)), out44)))))
    (M.pure (.done out42))
/-- epitaph/epitaphref08.both -/
def r08_both (a1 : List TDot) (b2 : List TDot) (greater3 : Bool) : M (List TDot) :=
  M.bind (M.det (r08_devs a1 b2)) fun v4 =>
  M.bind (M.loop (r08_both_l0 v4 a1 b2 greater3) (0, ([] : List TDot))) (fun out6 =>
  M.pure out6)

/-- epitaph/epitaphref08.Join -/
def r08_Join (a1 : List TDot) (b2 : List TDot) : M (List TDot) :=
  M.bind (M.det (r08_both a1 b2 true)) fun v3 =>
  M.pure v3

/-- epitaph/epitaphref08.Meet -/
def r08_Meet (a1 : List TDot) (b2 : List TDot) : M (List TDot) :=
  M.bind (M.det (r08_both a1 b2 false)) fun v3 =>
  M.pure v3

def r08_Within_l0 (v3 : List TDot) (a1 : List TDot) (b2 : List TDot) : Int → M (M.Step Int (M.Ex Unit Bool)) := fun i26 =>
  cond ((decide (i26 < (List.length v3 : Int))))
    (M.bind (M.idx v3 i26) fun x28 =>
    M.bind (M.det (r08_Of a1 x28.dev)) fun v30 =>
    M.bind (M.idx v3 i26) fun x32 =>
    M.bind (M.det (r08_Of b2 x32.dev)) fun v34 =>
    cond (decide (v34 < v30))
      (M.pure (.done (.ret false)))
      (M.pure (.next (IntKind.i64.wrap (i26 + 1)))))
    (M.pure (.done (.brk ())))
/-- epitaph/epitaphref08.Within -/
def r08_Within (a1 : List TDot) (b2 : List TDot) : M Bool :=
  M.bind (M.det (r08_devs a1 b2)) fun v3 =>
  M.bind (M.loop (r08_Within_l0 v3 a1 b2) 0) (M.exk (fun _ =>
  M.pure true))

/-- epitaph/epitaphref08.Order -/
def r08_Order (a1 : List TDot) (b2 : List TDot) : M Int :=
  M.bind (M.bind (M.det (r08_Within a1 b2)) fun v4 =>
  cond v4
    (M.bind (M.det (r08_Within b2 a1)) fun v7 =>
    M.pure v7)
    (M.pure false)) (fun v3 =>
  cond v3
    (M.pure 0)
    (M.bind (M.det (r08_Within a1 b2)) fun v10 =>
    cond v10
      (M.pure (-1))
      (M.bind (M.det (r08_Within b2 a1)) fun v13 =>
      cond v13
        (M.pure 1)
        (M.pure 2))))

def r08_Lack_l0 (v3 : List TDot) (a1 : List TDot) (b2 : List TDot) : Int × Int → M (M.Step (Int × Int) Int) := fun ⟨n30, i31⟩ =>
  cond ((decide (i31 < (List.length v3 : Int))))
    (M.bind (M.bind (M.idx v3 i31) fun x34 =>
    M.bind (M.det (r08_Of a1 x34.dev)) fun v36 =>
    M.bind (M.idx v3 i31) fun x38 =>
    M.bind (M.det (r08_Of b2 x38.dev)) fun v40 =>
    cond (decide (v36 < v40))
      (M.pure ((IntKind.u64.wrap ((IntKind.u64.wrap (n30 + v40)) - v36))))
      (M.pure n30)) (fun n33 =>
    M.pure (.next ((n33, (IntKind.i64.wrap (i31 + 1)))))))
    (M.pure (.done n30))
/-- epitaph/epitaphref08.Lack -/
def r08_Lack (a1 : List TDot) (b2 : List TDot) : M Int :=
  M.bind (M.det (r08_devs a1 b2)) fun v3 =>
  M.bind (M.loop (r08_Lack_l0 v3 a1 b2) (0, 0)) (fun n5 =>
  M.pure n5)

/-- epitaph/epitaphlaw08.VecPairs -/
def l08_VecPairs (a1 : List TDot) (b2 : List TDot) : M Bool :=
  M.bind (M.bind (M.det (l08_few a1)) fun v4 =>
  cond (!v4)
    (M.pure true)
    (M.bind (M.det (l08_few b2)) fun v7 =>
    M.pure (!v7))) (fun v3 =>
  cond v3
    (M.bind (M.det (l08_works)) fun v10 =>
    M.pure v10)
    (M.bind (M.bind (M.det (vec_Join a1 b2)) fun v13 =>
    M.bind (M.det (r08_Join a1 b2)) fun v15 =>
    M.bind (M.det (r07_Same v13 v15)) fun v17 =>
    cond v17
      (M.bind (M.det (vec_Meet a1 b2)) fun v20 =>
      M.bind (M.det (r08_Meet a1 b2)) fun v22 =>
      M.bind (M.det (r07_Same v20 v22)) fun v24 =>
      cond v24
        (M.bind (M.det (vec_Order a1 b2)) fun v27 =>
        M.bind (M.det (r08_Order a1 b2)) fun v29 =>
        cond (decide (v27 = v29))
          (M.bind (M.det (vec_Lack a1 b2)) fun v32 =>
          M.bind (M.det (r08_Lack a1 b2)) fun v34 =>
          cond (decide (v32 = v34))
            (M.bind (M.det (l08_works)) fun v37 =>
            M.pure v37)
            (M.pure false))
          (M.pure false))
        (M.pure false))
      (M.pure false)) (fun v12 =>
    M.pure v12)))

/-- epitaph/vec.Of -/
def vec_Of (v1 : List TDot) (dev2 : Int) : M Int :=
  M.bind (M.det (vec_told v1)) fun v3 =>
  M.pure (AL.getZ v3 dev2 0)

/-- epitaph/vec.Has -/
def vec_Has (v1 : List TDot) (d2 : TDot) : M Bool :=
  M.bind (M.bind (M.det (dot_Good d2)) fun v4 =>
  cond v4
    (M.bind (M.det (vec_Of v1 d2.dev)) fun v7 =>
    M.pure (decide (d2.n ≤ v7)))
    (M.pure false)) (fun v3 =>
  M.pure v3)

/-- epitaph/vec.Put -/
def vec_Put (v1 : List TDot) (d2 : TDot) : M (List TDot) :=
  M.bind (M.det (vec_Join v1 ([d2]))) fun v3 =>
  M.pure v3

/-- epitaph/epitaphlaw08.VecHas -/
def l08_VecHas (a1 : List TDot) (b2 : List TDot) (d3 : TDot) : M Bool :=
  M.bind (M.det (vec_Join a1 b2)) fun v4 =>
  M.bind (M.det (vec_Meet a1 b2)) fun v6 =>
  M.bind (M.bind (M.det (vec_Has v4 d3)) fun v9 =>
  M.bind (M.det (vec_Has a1 d3)) fun v11 =>
  cond v11
    (cond (!(v9 == true))
      (M.pure true)
      (M.bind (M.det (vec_Has v6 d3)) fun v15 =>
      M.bind (M.det (vec_Has a1 d3)) fun v17 =>
      cond v17
        (M.bind (M.det (vec_Has b2 d3)) fun v20 =>
        M.pure (!(v15 == v20)))
        (M.pure (!(v15 == false)))))
    (M.bind (M.det (vec_Has b2 d3)) fun v22 =>
    cond (!(v9 == v22))
      (M.pure true)
      (M.bind (M.det (vec_Has v6 d3)) fun v25 =>
      M.bind (M.det (vec_Has a1 d3)) fun v27 =>
      cond v27
        (M.bind (M.det (vec_Has b2 d3)) fun v30 =>
        M.pure (!(v25 == v30)))
        (M.pure (!(v25 == false)))))) (fun v8 =>
  cond v8
    (M.pure false)
    (M.bind (M.det (vec_Order a1 b2)) fun v33 =>
    M.bind (M.det (vec_Put a1 d3)) fun v35 =>
    M.bind (M.bind (M.det (vec_Lack b2 a1)) fun v38 =>
    cond (decide (v33 = 0))
      (cond (((decide (v38 = 0)) == true))
        (M.bind (M.det (vec_Lack a1 b2)) fun v42 =>
        cond (decide (v33 = 0))
          (cond (((decide (v42 = 0)) == true))
            (M.bind (M.det (vec_Order a1 v35)) fun v46 =>
            cond (!decide (v46 = 1))
              (M.bind (M.det (vec_Order a1 v35)) fun v49 =>
              cond (!decide (v49 = 2))
                (M.bind (M.det (vec_Has v35 d3)) fun v52 =>
                M.bind (M.det (r07_Good d3)) fun v54 =>
                cond (v52 == v54)
                  (M.bind (M.det (l08_works)) fun v57 =>
                  M.pure v57)
                  (M.pure false))
                (M.pure false))
              (M.pure false))
            (M.pure false))
          (cond (((decide (v42 = 0)) == (decide (v33 = 1))))
            (M.bind (M.det (vec_Order a1 v35)) fun v60 =>
            cond (!decide (v60 = 1))
              (M.bind (M.det (vec_Order a1 v35)) fun v63 =>
              cond (!decide (v63 = 2))
                (M.bind (M.det (vec_Has v35 d3)) fun v66 =>
                M.bind (M.det (r07_Good d3)) fun v68 =>
                cond (v66 == v68)
                  (M.bind (M.det (l08_works)) fun v71 =>
                  M.pure v71)
                  (M.pure false))
                (M.pure false))
              (M.pure false))
            (M.pure false)))
        (M.pure false))
      (cond (((decide (v38 = 0)) == ((decide (v33 = (-1))))))
        (M.bind (M.det (vec_Lack a1 b2)) fun v74 =>
        cond (decide (v33 = 0))
          (cond (((decide (v74 = 0)) == true))
            (M.bind (M.det (vec_Order a1 v35)) fun v78 =>
            cond (!decide (v78 = 1))
              (M.bind (M.det (vec_Order a1 v35)) fun v81 =>
              cond (!decide (v81 = 2))
                (M.bind (M.det (vec_Has v35 d3)) fun v84 =>
                M.bind (M.det (r07_Good d3)) fun v86 =>
                cond (v84 == v86)
                  (M.bind (M.det (l08_works)) fun v89 =>
                  M.pure v89)
                  (M.pure false))
                (M.pure false))
              (M.pure false))
            (M.pure false))
          (cond (((decide (v74 = 0)) == (decide (v33 = 1))))
            (M.bind (M.det (vec_Order a1 v35)) fun v92 =>
            cond (!decide (v92 = 1))
              (M.bind (M.det (vec_Order a1 v35)) fun v95 =>
              cond (!decide (v95 = 2))
                (M.bind (M.det (vec_Has v35 d3)) fun v98 =>
                M.bind (M.det (r07_Good d3)) fun v100 =>
                cond (v98 == v100)
                  (M.bind (M.det (l08_works)) fun v103 =>
                  M.pure v103)
                  (M.pure false))
                (M.pure false))
              (M.pure false))
            (M.pure false)))
        (M.pure false))) (fun v37 =>
    M.pure v37)))

def slices_Equal_sl_Dot_Dot_l0 (s1_1 : List TDot) (s2_2 : List TDot) : Int → M (M.Step Int (M.Ex Unit Bool)) := fun v17 =>
  cond ((decide (v17 < (List.length s1_1 : Int))))
    (M.bind (M.idx s1_1 v17) fun x19 =>
    M.bind (M.idx s2_2 v17) fun x21 =>
    cond ((!(decide (x19.dev = x21.dev) && decide (x19.n = x21.n))))
      (M.pure (.done (.ret false)))
      (M.pure (.next (IntKind.i64.wrap (v17 + 1)))))
    (M.pure (.done (.brk ())))
/-- slices.Equal[[]epitaph/api.Dot,epitaph/api.Dot] -/
def slices_Equal_sl_Dot_Dot (s1_1 : List TDot) (s2_2 : List TDot) : M Bool :=
  cond ((!decide ((List.length s1_1 : Int) = (List.length s2_2 : Int))))
    (M.pure false)
    (M.bind (M.loop (slices_Equal_sl_Dot_Dot_l0 s1_1 s2_2) 0) (M.exk (fun _ =>
    M.pure true)))

/-- epitaph/dot.Same -/
def dot_Same (a1 : List TDot) (b2 : List TDot) : M Bool :=
  M.bind (M.det (slices_Equal_sl_Dot_Dot a1 b2)) fun v3 =>
  M.pure v3

/-- epitaph/vec.Good -/
def vec_Good (v1 : List TDot) : M Bool :=
  M.bind (M.det (vec_Norm v1)) fun v2 =>
  M.bind (M.det (dot_Same v1 v2)) fun v4 =>
  M.pure v4

/-- epitaph/epitaphlaw08.VecLaws -/
def l08_VecLaws (a1 : List TDot) (b2 : List TDot) (c3 : List TDot) : M Bool :=
  M.bind (M.det (vec_Norm a1)) fun v4 =>
  M.bind (M.bind (M.det (vec_Join a1 b2)) fun v7 =>
  M.bind (M.det (vec_Join b2 a1)) fun v9 =>
  M.bind (M.det (r07_Same v7 v9)) fun v11 =>
  cond v11
    (M.bind (M.det (vec_Join a1 b2)) fun v14 =>
    M.bind (M.det (vec_Join v14 c3)) fun v16 =>
    M.bind (M.det (vec_Join b2 c3)) fun v18 =>
    M.bind (M.det (vec_Join a1 v18)) fun v20 =>
    M.bind (M.det (r07_Same v16 v20)) fun v22 =>
    cond v22
      (M.bind (M.det (vec_Meet a1 b2)) fun v25 =>
      M.bind (M.det (vec_Meet v25 c3)) fun v27 =>
      M.bind (M.det (vec_Meet b2 c3)) fun v29 =>
      M.bind (M.det (vec_Meet a1 v29)) fun v31 =>
      M.bind (M.det (r07_Same v27 v31)) fun v33 =>
      cond v33
        (M.bind (M.det (vec_Join a1 a1)) fun v36 =>
        M.bind (M.det (r07_Same v36 v4)) fun v38 =>
        cond v38
          (M.bind (M.det (vec_Join a1 b2)) fun v41 =>
          M.bind (M.det (vec_Meet a1 v41)) fun v43 =>
          M.bind (M.det (r07_Same v43 v4)) fun v45 =>
          cond v45
            (M.bind (M.det (vec_Meet a1 b2)) fun v48 =>
            M.bind (M.det (vec_Join a1 v48)) fun v50 =>
            M.bind (M.det (r07_Same v50 v4)) fun v52 =>
            cond v52
              (M.bind (M.det (vec_Good v4)) fun v55 =>
              cond v55
                (M.bind (M.det (vec_Order a1 v4)) fun v58 =>
                cond (decide (v58 = 0))
                  (M.bind (M.det (l08_works)) fun v61 =>
                  M.pure v61)
                  (M.pure false))
                (M.pure false))
              (M.pure false))
            (M.pure false))
          (M.pure false))
        (M.pure false))
      (M.pure false))
    (M.pure false)) (fun v6 =>
  M.pure v6)

/-- epitaph/epitaphref08.Norm -/
def r08_Norm (v1 : List TDot) : M (List TDot) :=
  M.bind (M.det (r08_both v1 ([] : List TDot) true)) fun v2 =>
  M.pure v2

/-- epitaph/epitaphlaw08.VecTells -/
def l08_VecTells (v1 : List TDot) (d2 : TDot) : M Bool :=
  M.bind (M.det (l08_few v1)) fun v3 =>
  cond (!v3)
    (M.bind (M.det (l08_works)) fun v6 =>
    M.pure v6)
    (M.bind (M.det (r08_Norm v1)) fun v8 =>
    M.bind (M.det (r07_Good d2)) fun v10 =>
    M.bind (cond v10
      (M.bind (M.det (r08_Join v1 ([d2]))) fun v14 =>
      M.pure v14)
      (M.pure v8)) (fun want12 =>
    M.bind (M.bind (M.det (vec_Norm v1)) fun v17 =>
    M.bind (M.det (r08_Norm v1)) fun v19 =>
    M.bind (M.det (r07_Same v17 v19)) fun v21 =>
    cond v21
      (M.bind (M.det (vec_Good v1)) fun v24 =>
      M.bind (M.det (r08_Norm v1)) fun v26 =>
      M.bind (M.det (r07_Same v1 v26)) fun v28 =>
      cond (v24 == v28)
        (M.bind (M.det (vec_Of v1 d2.dev)) fun v31 =>
        M.bind (M.det (r08_Of v1 d2.dev)) fun v33 =>
        cond (decide (v31 = v33))
          (M.bind (M.det (vec_Has v1 d2)) fun v36 =>
          M.bind (M.det (r07_Good d2)) fun v38 =>
          cond v38
            (M.bind (M.det (r08_Of v1 d2.dev)) fun v41 =>
            cond ((v36 == (decide (d2.n ≤ v41))))
              (M.bind (M.det (vec_Put v1 d2)) fun v44 =>
              M.bind (M.det (r07_Same v44 want12)) fun v46 =>
              cond v46
                (M.bind (M.det (l08_works)) fun v49 =>
                M.pure v49)
                (M.pure false))
              (M.pure false))
            (cond (v36 == false)
              (M.bind (M.det (vec_Put v1 d2)) fun v52 =>
              M.bind (M.det (r07_Same v52 want12)) fun v54 =>
              cond v54
                (M.bind (M.det (l08_works)) fun v57 =>
                M.pure v57)
                (M.pure false))
              (M.pure false)))
          (M.pure false))
        (M.pure false))
      (M.pure false)) (fun v16 =>
    M.pure v16)))
end Go.Ep
