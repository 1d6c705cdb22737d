/- How the structs lie in memory. -/
import Derived.Test.YtdipflebhoodkaaMr
import Derived.Test.YtdipflebhoodkaaTy
namespace Go.Ep
def TRun.e (x : TRun) : List DV := [.v (.int .u64 x.lo), .v (.int .u64 x.hi)]
def TRun.v (x : TRun) : List Value := [(.int .u64 x.lo), (.int .u64 x.hi)]
theorem TRun.v1 (x : TRun) : ∀ u ∈ x.v, u.oneCell' = true := by
  intro u hu
  simp only [TRun.v, List.mem_cons, List.not_mem_nil, or_false] at hu
  rcases hu with rfl | rfl <;> rfl
def TRun.k (x : TRun) : List Int := [x.lo, x.hi]
theorem TRun.k_inj (a b : TRun) (h : a.k = b.k) : a = b := by
  cases a; cases b; simp [TRun.k] at h; simp [h]
def L26Act.e (x : L26Act) : List DV := [.v (.int .u8 x.kind), .v (.int .u8 x.slot), .v (.int .u64 x.try_), .v (.int .u16 x.dev), .v (.int .u64 x.epoch)]
def L26Act.v (x : L26Act) : List Value := [(.int .u8 x.kind), (.int .u8 x.slot), (.int .u64 x.try_), (.int .u16 x.dev), (.int .u64 x.epoch)]
theorem L26Act.v1 (x : L26Act) : ∀ u ∈ x.v, u.oneCell' = true := by
  intro u hu
  simp only [L26Act.v, List.mem_cons, List.not_mem_nil, or_false] at hu
  rcases hu with rfl | rfl | rfl | rfl | rfl <;> rfl
def L26Act.k (x : L26Act) : List Int := [x.kind, x.slot, x.try_, x.dev, x.epoch]
theorem L26Act.k_inj (a b : L26Act) (h : a.k = b.k) : a = b := by
  cases a; cases b; simp [L26Act.k] at h; simp [h]
def TMember.e (x : TMember) : List DV := [.v (.int .u16 x.dev), .v (.int .u8 x.slot), .v (.int .u64 x.try_)]
def TMember.v (x : TMember) : List Value := [(.int .u16 x.dev), (.int .u8 x.slot), (.int .u64 x.try_)]
theorem TMember.v1 (x : TMember) : ∀ u ∈ x.v, u.oneCell' = true := by
  intro u hu
  simp only [TMember.v, List.mem_cons, List.not_mem_nil, or_false] at hu
  rcases hu with rfl | rfl | rfl <;> rfl
def TMember.k (x : TMember) : List Int := [x.dev, x.slot, x.try_]
theorem TMember.k_inj (a b : TMember) (h : a.k = b.k) : a = b := by
  cases a; cases b; simp [TMember.k] at h; simp [h]
def TDot.e (x : TDot) : List DV := [.v (.int .u16 x.dev), .v (.int .u64 x.n)]
def TDot.v (x : TDot) : List Value := [(.int .u16 x.dev), (.int .u64 x.n)]
theorem TDot.v1 (x : TDot) : ∀ u ∈ x.v, u.oneCell' = true := by
  intro u hu
  simp only [TDot.v, List.mem_cons, List.not_mem_nil, or_false] at hu
  rcases hu with rfl | rfl <;> rfl
def TDot.k (x : TDot) : List Int := [x.dev, x.n]
theorem TDot.k_inj (a b : TDot) (h : a.k = b.k) : a = b := by
  cases a; cases b; simp [TDot.k] at h; simp [h]
def TEvent.e (x : TEvent) : List DV := [.v (.int .u16 x.dot.dev), .v (.int .u64 x.dot.n), .v (.int .u8 x.kind), .v (.int .u64 x.cid), .v (.int .u8 x.field), .v (.string x.text), .sl (List.map TDot.e x.kills)]
end Go.Ep
