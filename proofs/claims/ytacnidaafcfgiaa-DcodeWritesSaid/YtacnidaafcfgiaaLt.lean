/- The orders by which the program sorts. -/
import Derived.Test.YtacnidaafcfgiaaTy
namespace Go.Ep
def ltDot (x y : TDot) : Bool := decide (x.dev < y.dev) || (decide (x.dev = y.dev) && decide (x.n < y.n))
def ltRun (x y : TRun) : Bool := decide (x.lo < y.lo)
def ltPart (x y : TPart) : Bool := decide (x.dev < y.dev)
def ltEvent (x y : TEvent) : Bool := decide (x.dot.dev < y.dot.dev) || (decide (x.dot.dev = y.dot.dev) && decide (x.dot.n < y.dot.n))
end Go.Ep
