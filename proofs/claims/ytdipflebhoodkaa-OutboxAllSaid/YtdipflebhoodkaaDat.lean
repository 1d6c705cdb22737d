/- The data that the statements speak of, and how it lies in memory. No program in sight. -/
import Derived.Test.YtdipflebhoodkaaEp10
namespace Go.Ep

structure Run where
  lo : Nat
  hi : Nat
  deriving DecidableEq, Inhabited
structure Dot where
  dev : Nat
  n : Nat
  deriving DecidableEq, Inhabited
structure Ev where
  dot : Dot
  kind : Nat
  cid : Nat
  field : Nat
  text : ByteArray
  kills : List Dot
  deriving Inhabited
structure Part where
  dev : Nat
  runs : List Run
  deriving DecidableEq, Inhabited
structure Member where
  dev : Nat
  slot : Nat
  try_ : Nat
  deriving DecidableEq, Inhabited

def eN (n : Nat) : List DV := [.v (.int .u64 n)]
def eI (n : Int) : List DV := [.v (.int .i64 n)]
def eW (n : Nat) : List DV := [.v (.int .u16 n)]
def eS (b : ByteArray) : List DV := [.v (.string b)]
def eB (n : Nat) : List DV := [.v (.int .u8 n)]
def eRun (r : Run) : List DV := [.v (.int .u64 r.lo), .v (.int .u64 r.hi)]
def eDot (d : Dot) : List DV := [.v (.int .u16 d.dev), .v (.int .u64 d.n)]
def eEv (e : Ev) : List DV := [.v (.int .u16 e.dot.dev), .v (.int .u64 e.dot.n), .v (.int .u8 e.kind), .v (.int .u64 e.cid), .v (.int .u8 e.field), .v (.string e.text), .sl (e.kills.map eDot)]
def ePart (p : Part) : List DV := [.v (.int .u16 p.dev), .sl (p.runs.map eRun)]
def eMember (m : Member) : List DV := [.v (.int .u16 m.dev), .v (.int .u8 m.slot), .v (.int .u64 m.try_)]

abbrev pI (n : Int) : PV := .d (.v (.int .i64 n))
abbrev pU (n : Nat) : PV := .d (.v (.int .u64 n))
abbrev pB (b : Bool) : PV := .d (.v (.bool b))
abbrev pEs (l : List Ev) : PV := .d (.sl (l.map eEv))
abbrev pRs (l : List Run) : PV := .d (.sl (l.map eRun))
abbrev pDs (l : List Dot) : PV := .d (.sl (l.map eDot))
abbrev pNs (l : List Nat) : PV := .d (.sl (l.map eN))
abbrev pA (cs : List DV) : PV := .agg (cs.map .d)

def okDot (d : Dot) : Prop := d.dev < 65536 ∧ d.n < 18446744073709551616
def okRun (r : Run) : Prop := r.lo < 18446744073709551616 ∧ r.hi < 18446744073709551616
def okPart (p : Part) : Prop := p.dev < 65536 ∧ p.runs.length ≤ 9223372036854775807 ∧ ∀ r ∈ p.runs, okRun r
def okMember (m : Member) : Prop := m.dev < 65536 ∧ m.slot < 256 ∧ m.try_ < 18446744073709551616
def okEv (e : Ev) : Prop := okDot e.dot ∧ e.kind < 256 ∧ e.cid < 18446744073709551616 ∧ e.field < 256 ∧ e.text.size ≤ 9223372036854775807 ∧ e.kills.length ≤ 9223372036854775807 ∧ ∀ d ∈ e.kills, okDot d
end Go.Ep
