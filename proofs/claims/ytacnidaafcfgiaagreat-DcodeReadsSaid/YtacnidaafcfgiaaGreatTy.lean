/- The program's structs, as Lean has them. -/
import Derived.Test.YtacnidaafcfgiaaGreatMd
namespace Go.Ep
structure TDot where
  dev : Int
  n : Int
  deriving DecidableEq
structure R04Reader where
  b : List Int
  at_ : Int
  bad : Int
  deriving DecidableEq
structure PpackWriter where
  b : List Int
  deriving DecidableEq
structure TRun where
  lo : Int
  hi : Int
  deriving DecidableEq
structure TPart where
  dev : Int
  runs : List TRun
  deriving DecidableEq
structure Ppackrest where
  b : List Int
  deriving DecidableEq
structure PpackReader where
  rest : Ppackrest
  bad : Int
  deriving DecidableEq
end Go.Ep
