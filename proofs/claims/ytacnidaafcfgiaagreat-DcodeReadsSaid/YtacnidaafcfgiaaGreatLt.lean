/- The orders by which the program sorts. -/
import Derived.Test.YtacnidaafcfgiaaGreatTy
namespace Go.Ep
def ltDot (x y : TDot) : Bool := decide (x.dev < y.dev) || (decide (x.dev = y.dev) && decide (x.n < y.n))
def ltRun (x y : TRun) : Bool := decide (x.lo < y.lo)
def ltPart (x y : TPart) : Bool := decide (x.dev < y.dev)
end Go.Ep
