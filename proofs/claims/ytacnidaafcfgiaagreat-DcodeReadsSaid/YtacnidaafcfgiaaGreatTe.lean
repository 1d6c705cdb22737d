/- How the structs lie in memory. -/
import Derived.Test.YtacnidaafcfgiaaGreatMr
import Derived.Test.YtacnidaafcfgiaaGreatTy
namespace Go.Ep
def TDot.e (x : TDot) : List DV := [.v (.int .u16 x.dev), .v (.int .u64 x.n)]
def TDot.v (x : TDot) : List Value := [(.int .u16 x.dev), (.int .u64 x.n)]
theorem TDot.v1 (x : TDot) : ∀ u ∈ x.v, u.oneCell' = true := by
  intro u hu
  simp only [TDot.v, List.mem_cons, List.not_mem_nil, or_false] at hu
  rcases hu with rfl | rfl <;> rfl
def TDot.k (x : TDot) : List Int := [x.dev, x.n]
theorem TDot.k_inj (a b : TDot) (h : a.k = b.k) : a = b := by
  cases a; cases b; simp [TDot.k] at h; simp [h]
def R04Reader.e (x : R04Reader) : List DV := [.sl (List.map (eK .u8) x.b), .v (.int .i64 x.at_), .v (.int .i64 x.bad)]
def PpackWriter.e (x : PpackWriter) : List DV := [.sl (List.map (eK .u8) x.b)]
def TRun.e (x : TRun) : List DV := [.v (.int .u64 x.lo), .v (.int .u64 x.hi)]
def TRun.v (x : TRun) : List Value := [(.int .u64 x.lo), (.int .u64 x.hi)]
theorem TRun.v1 (x : TRun) : ∀ u ∈ x.v, u.oneCell' = true := by
  intro u hu
  simp only [TRun.v, List.mem_cons, List.not_mem_nil, or_false] at hu
  rcases hu with rfl | rfl <;> rfl
def TRun.k (x : TRun) : List Int := [x.lo, x.hi]
theorem TRun.k_inj (a b : TRun) (h : a.k = b.k) : a = b := by
  cases a; cases b; simp [TRun.k] at h; simp [h]
def TPart.e (x : TPart) : List DV := [.v (.int .u16 x.dev), .sl (List.map TRun.e x.runs)]
def Ppackrest.e (x : Ppackrest) : List DV := [.sl (List.map (eK .u8) x.b)]
def PpackReader.e (x : PpackReader) : List DV := [.sl (List.map (eK .u8) x.rest.b), .v (.int .i64 x.bad)]
end Go.Ep
