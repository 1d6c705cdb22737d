/- The program's structs, as Lean has them. -/
import Derived.Test.YtdipflebhoodkaaMd
namespace Go.Ep
structure TRun where
  lo : Int
  hi : Int
  deriving DecidableEq
structure L26Act where
  kind : Int
  slot : Int
  try_ : Int
  dev : Int
  epoch : Int
  deriving DecidableEq
structure TMember where
  dev : Int
  slot : Int
  try_ : Int
  deriving DecidableEq
structure TDot where
  dev : Int
  n : Int
  deriving DecidableEq
structure TEvent where
  dot : TDot
  kind : Int
  cid : Int
  field : Int
  text : ByteArray
  kills : List TDot
  deriving DecidableEq
end Go.Ep
