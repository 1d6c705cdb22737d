/-
  No cell of these rows narrows 'for every input' (looked for: loops, veiled, ifaces, maps, wideKeys, modest, calm, conditions, laid).
  DERIVED. THE GIVEN ROWS OF THIS SEAT. 14 by the template 'for every input the law returns true; each argument reads behind the call as it read before'; 0 by the template 'total and deterministic' (their statements: YtdipflebhoodkaaTotals.lean).
  GIVEN WITH THE SEED: the statements are not yours to turn. If you find one false, say at which input.
  Laid BY PROGRAM, IN A SANDBOX (cutbox-rows.mjs): the forced cells as the released guide's own fill.sh prints them over the translation 97bfa6c3b26e53b3… (all of the seat's roots in one cut). By AI agents, Wed Nov 11 2026. No macro, syntax, notation, axiom, sorry.
-/
import Derived.Test.YtdipflebhoodkaaChecked
import GoSem.Claim
import GoSem.ClaimJoined
import GoSem.ClaimMapViews
import Derived.JoinedTies
import Derived.KernelRfl
namespace Go.Proofs.Ytdipflebhoodkaa
/- THE CELL 'sum', in the pinned program and in every row, IS THE sha256 OF THE DUMP (.gsa) THAT YtdipflebhoodkaaProg.lean LOADS. Nothing in Lean hashes anything: it is a label: what it is worth is what the hold of that sum in a sandbox is worth. -/
noncomputable def Try.pinned : Pinned := { name := "ytdipflebhoodkaa", sum := "97bfa6c3b26e53b38a9ed18ac0b2c9da9504684a656a73b1dd765780f49ea570", checked := Try.checked }
namespace Rows
def none {H : Type} : Left H := { results := [], args := [] }

/-- 'epitaphlaw29.OutboxAll': WHATEVER THE INPUT: true; the input reads as it did. -/
def outboxAllSpec : ChangeSpec := { name := "outboxAll", fn := fun _ => fun
  | [d] => { results := [.lit (.bool true)], args := [d] }
  | _ => none }
def outboxAllRow : OpenClaim := { program := "ytdipflebhoodkaa", sum := "97bfa6c3b26e53b38a9ed18ac0b2c9da9504684a656a73b1dd765780f49ea570", func := "epitaph/epitaphlaw29.OutboxAll", spec := "outboxAll", apart := false }
def OutboxAllSaid : Prop := outboxAllRow.holds Try.pinned (OpenSpec.ofChange outboxAllSpec)

/-- ITS FALSE NEIGHBOUR: 'it returns false'. Refute it at one input. -/
def outboxAllWrong : ChangeSpec := { name := "outboxAll", fn := fun _ => fun
  | [d] => { results := [.lit (.bool false)], args := [d] }
  | _ => none }
def OutboxAllWrongFalsely : Prop := outboxAllRow.holds Try.pinned (OpenSpec.ofChange outboxAllWrong)

/-- 'epitaphlaw06.RunsEach': WHATEVER THE INPUT: true; the input reads as it did. -/
def runsEachSpec : ChangeSpec := { name := "runsEach", fn := fun _ => fun
  | [d1, d2] => { results := [.lit (.bool true)], args := [d1, d2] }
  | _ => none }
def runsEachRow : OpenClaim := { program := "ytdipflebhoodkaa", sum := "97bfa6c3b26e53b38a9ed18ac0b2c9da9504684a656a73b1dd765780f49ea570", func := "epitaph/epitaphlaw06.RunsEach", spec := "runsEach", unfollowed := true, recurses := true, apart := false }
def RunsEachSaid : Prop := runsEachRow.holds Try.pinned (OpenSpec.ofChange runsEachSpec)

/-- ITS FALSE NEIGHBOUR: 'it returns false'. Refute it at one input. -/
def runsEachWrong : ChangeSpec := { name := "runsEach", fn := fun _ => fun
  | [d1, d2] => { results := [.lit (.bool false)], args := [d1, d2] }
  | _ => none }
def RunsEachWrongFalsely : Prop := runsEachRow.holds Try.pinned (OpenSpec.ofChange runsEachWrong)

/-- 'epitaphlaw26.RosterOnce': WHATEVER THE INPUT: true; the input reads as it did. -/
def rosterOnceSpec : ChangeSpec := { name := "rosterOnce", fn := fun _ => fun
  | [d] => { results := [.lit (.bool true)], args := [d] }
  | _ => none }
def rosterOnceRow : OpenClaim := { program := "ytdipflebhoodkaa", sum := "97bfa6c3b26e53b38a9ed18ac0b2c9da9504684a656a73b1dd765780f49ea570", func := "epitaph/epitaphlaw26.RosterOnce", spec := "rosterOnce", unfollowed := true, recurses := true, apart := false }
def RosterOnceSaid : Prop := rosterOnceRow.holds Try.pinned (OpenSpec.ofChange rosterOnceSpec)

/-- ITS FALSE NEIGHBOUR: 'it returns false'. Refute it at one input. -/
def rosterOnceWrong : ChangeSpec := { name := "rosterOnce", fn := fun _ => fun
  | [d] => { results := [.lit (.bool false)], args := [d] }
  | _ => none }
def RosterOnceWrongFalsely : Prop := rosterOnceRow.holds Try.pinned (OpenSpec.ofChange rosterOnceWrong)

/-- 'epitaphlaw08.VecPairs': WHATEVER THE INPUT: true; the input reads as it did. -/
def vecPairsSpec : ChangeSpec := { name := "vecPairs", fn := fun _ => fun
  | [d1, d2] => { results := [.lit (.bool true)], args := [d1, d2] }
  | _ => none }
def vecPairsRow : OpenClaim := { program := "ytdipflebhoodkaa", sum := "97bfa6c3b26e53b38a9ed18ac0b2c9da9504684a656a73b1dd765780f49ea570", func := "epitaph/epitaphlaw08.VecPairs", spec := "vecPairs", unfollowed := true, recurses := true, apart := false }
def VecPairsSaid : Prop := vecPairsRow.holds Try.pinned (OpenSpec.ofChange vecPairsSpec)

/-- ITS FALSE NEIGHBOUR: 'it returns false'. Refute it at one input. -/
def vecPairsWrong : ChangeSpec := { name := "vecPairs", fn := fun _ => fun
  | [d1, d2] => { results := [.lit (.bool false)], args := [d1, d2] }
  | _ => none }
def VecPairsWrongFalsely : Prop := vecPairsRow.holds Try.pinned (OpenSpec.ofChange vecPairsWrong)

/-- 'epitaphlaw08.VecHas': WHATEVER THE INPUT: true; the input reads as it did. -/
def vecHasSpec : ChangeSpec := { name := "vecHas", fn := fun _ => fun
  | [d1, d2, d3] => { results := [.lit (.bool true)], args := [d1, d2, d3] }
  | _ => none }
def vecHasRow : OpenClaim := { program := "ytdipflebhoodkaa", sum := "97bfa6c3b26e53b38a9ed18ac0b2c9da9504684a656a73b1dd765780f49ea570", func := "epitaph/epitaphlaw08.VecHas", spec := "vecHas", unfollowed := true, recurses := true, apart := false }
def VecHasSaid : Prop := vecHasRow.holds Try.pinned (OpenSpec.ofChange vecHasSpec)

/-- ITS FALSE NEIGHBOUR: 'it returns false'. Refute it at one input. -/
def vecHasWrong : ChangeSpec := { name := "vecHas", fn := fun _ => fun
  | [d1, d2, d3] => { results := [.lit (.bool false)], args := [d1, d2, d3] }
  | _ => none }
def VecHasWrongFalsely : Prop := vecHasRow.holds Try.pinned (OpenSpec.ofChange vecHasWrong)

/-- 'epitaphlaw26.RosterFrom': WHATEVER THE INPUT: true; the input reads as it did. -/
def rosterFromSpec : ChangeSpec := { name := "rosterFrom", fn := fun _ => fun
  | [d1, d2, d3] => { results := [.lit (.bool true)], args := [d1, d2, d3] }
  | _ => none }
def rosterFromRow : OpenClaim := { program := "ytdipflebhoodkaa", sum := "97bfa6c3b26e53b38a9ed18ac0b2c9da9504684a656a73b1dd765780f49ea570", func := "epitaph/epitaphlaw26.RosterFrom", spec := "rosterFrom", unfollowed := true, recurses := true, apart := false }
def RosterFromSaid : Prop := rosterFromRow.holds Try.pinned (OpenSpec.ofChange rosterFromSpec)

/-- ITS FALSE NEIGHBOUR: 'it returns false'. Refute it at one input. -/
def rosterFromWrong : ChangeSpec := { name := "rosterFrom", fn := fun _ => fun
  | [d1, d2, d3] => { results := [.lit (.bool false)], args := [d1, d2, d3] }
  | _ => none }
def RosterFromWrongFalsely : Prop := rosterFromRow.holds Try.pinned (OpenSpec.ofChange rosterFromWrong)

/-- 'epitaphlaw08.VecLaws': WHATEVER THE INPUT: true; the input reads as it did. -/
def vecLawsSpec : ChangeSpec := { name := "vecLaws", fn := fun _ => fun
  | [d1, d2, d3] => { results := [.lit (.bool true)], args := [d1, d2, d3] }
  | _ => none }
def vecLawsRow : OpenClaim := { program := "ytdipflebhoodkaa", sum := "97bfa6c3b26e53b38a9ed18ac0b2c9da9504684a656a73b1dd765780f49ea570", func := "epitaph/epitaphlaw08.VecLaws", spec := "vecLaws", unfollowed := true, recurses := true, apart := false }
def VecLawsSaid : Prop := vecLawsRow.holds Try.pinned (OpenSpec.ofChange vecLawsSpec)

/-- ITS FALSE NEIGHBOUR: 'it returns false'. Refute it at one input. -/
def vecLawsWrong : ChangeSpec := { name := "vecLaws", fn := fun _ => fun
  | [d1, d2, d3] => { results := [.lit (.bool false)], args := [d1, d2, d3] }
  | _ => none }
def VecLawsWrongFalsely : Prop := vecLawsRow.holds Try.pinned (OpenSpec.ofChange vecLawsWrong)

/-- 'epitaphlaw08.VecTells': WHATEVER THE INPUT: true; the input reads as it did. -/
def vecTellsSpec : ChangeSpec := { name := "vecTells", fn := fun _ => fun
  | [d1, d2] => { results := [.lit (.bool true)], args := [d1, d2] }
  | _ => none }
def vecTellsRow : OpenClaim := { program := "ytdipflebhoodkaa", sum := "97bfa6c3b26e53b38a9ed18ac0b2c9da9504684a656a73b1dd765780f49ea570", func := "epitaph/epitaphlaw08.VecTells", spec := "vecTells", unfollowed := true, recurses := true, apart := false }
def VecTellsSaid : Prop := vecTellsRow.holds Try.pinned (OpenSpec.ofChange vecTellsSpec)

/-- ITS FALSE NEIGHBOUR: 'it returns false'. Refute it at one input. -/
def vecTellsWrong : ChangeSpec := { name := "vecTells", fn := fun _ => fun
  | [d1, d2] => { results := [.lit (.bool false)], args := [d1, d2] }
  | _ => none }
def VecTellsWrongFalsely : Prop := vecTellsRow.holds Try.pinned (OpenSpec.ofChange vecTellsWrong)

/-- 'epitaphlaw26.RosterNil': WHATEVER THE INPUT: true; the input reads as it did. -/
def rosterNilSpec : ChangeSpec := { name := "rosterNil", fn := fun _ => fun
  | [d1, d2, d3] => { results := [.lit (.bool true)], args := [d1, d2, d3] }
  | _ => none }
def rosterNilRow : OpenClaim := { program := "ytdipflebhoodkaa", sum := "97bfa6c3b26e53b38a9ed18ac0b2c9da9504684a656a73b1dd765780f49ea570", func := "epitaph/epitaphlaw26.RosterNil", spec := "rosterNil", unfollowed := true, recurses := true, apart := false }
def RosterNilSaid : Prop := rosterNilRow.holds Try.pinned (OpenSpec.ofChange rosterNilSpec)

/-- ITS FALSE NEIGHBOUR: 'it returns false'. Refute it at one input. -/
def rosterNilWrong : ChangeSpec := { name := "rosterNil", fn := fun _ => fun
  | [d1, d2, d3] => { results := [.lit (.bool false)], args := [d1, d2, d3] }
  | _ => none }
def RosterNilWrongFalsely : Prop := rosterNilRow.holds Try.pinned (OpenSpec.ofChange rosterNilWrong)

/-- 'epitaphlaw06.RunsTells': WHATEVER THE INPUT: true; the input reads as it did. -/
def runsTellsSpec : ChangeSpec := { name := "runsTells", fn := fun _ => fun
  | [d1, d2, d3] => { results := [.lit (.bool true)], args := [d1, d2, d3] }
  | _ => none }
def runsTellsRow : OpenClaim := { program := "ytdipflebhoodkaa", sum := "97bfa6c3b26e53b38a9ed18ac0b2c9da9504684a656a73b1dd765780f49ea570", func := "epitaph/epitaphlaw06.RunsTells", spec := "runsTells", unfollowed := true, recurses := true, apart := false }
def RunsTellsSaid : Prop := runsTellsRow.holds Try.pinned (OpenSpec.ofChange runsTellsSpec)

/-- ITS FALSE NEIGHBOUR: 'it returns false'. Refute it at one input. -/
def runsTellsWrong : ChangeSpec := { name := "runsTells", fn := fun _ => fun
  | [d1, d2, d3] => { results := [.lit (.bool false)], args := [d1, d2, d3] }
  | _ => none }
def RunsTellsWrongFalsely : Prop := runsTellsRow.holds Try.pinned (OpenSpec.ofChange runsTellsWrong)

/-- 'epitaphlaw06.RunsOrder': WHATEVER THE INPUT: true; the input reads as it did. -/
def runsOrderSpec : ChangeSpec := { name := "runsOrder", fn := fun _ => fun
  | [d1, d2] => { results := [.lit (.bool true)], args := [d1, d2] }
  | _ => none }
def runsOrderRow : OpenClaim := { program := "ytdipflebhoodkaa", sum := "97bfa6c3b26e53b38a9ed18ac0b2c9da9504684a656a73b1dd765780f49ea570", func := "epitaph/epitaphlaw06.RunsOrder", spec := "runsOrder", unfollowed := true, recurses := true, apart := false }
def RunsOrderSaid : Prop := runsOrderRow.holds Try.pinned (OpenSpec.ofChange runsOrderSpec)

/-- ITS FALSE NEIGHBOUR: 'it returns false'. Refute it at one input. -/
def runsOrderWrong : ChangeSpec := { name := "runsOrder", fn := fun _ => fun
  | [d1, d2] => { results := [.lit (.bool false)], args := [d1, d2] }
  | _ => none }
def RunsOrderWrongFalsely : Prop := runsOrderRow.holds Try.pinned (OpenSpec.ofChange runsOrderWrong)

/-- 'epitaphlaw06.RunsSets': WHATEVER THE INPUT: true; the input reads as it did. -/
def runsSetsSpec : ChangeSpec := { name := "runsSets", fn := fun _ => fun
  | [d1, d2] => { results := [.lit (.bool true)], args := [d1, d2] }
  | _ => none }
def runsSetsRow : OpenClaim := { program := "ytdipflebhoodkaa", sum := "97bfa6c3b26e53b38a9ed18ac0b2c9da9504684a656a73b1dd765780f49ea570", func := "epitaph/epitaphlaw06.RunsSets", spec := "runsSets", unfollowed := true, recurses := true, apart := false }
def RunsSetsSaid : Prop := runsSetsRow.holds Try.pinned (OpenSpec.ofChange runsSetsSpec)

/-- ITS FALSE NEIGHBOUR: 'it returns false'. Refute it at one input. -/
def runsSetsWrong : ChangeSpec := { name := "runsSets", fn := fun _ => fun
  | [d1, d2] => { results := [.lit (.bool false)], args := [d1, d2] }
  | _ => none }
def RunsSetsWrongFalsely : Prop := runsSetsRow.holds Try.pinned (OpenSpec.ofChange runsSetsWrong)

/-- 'epitaphlaw26.RosterPlays': WHATEVER THE INPUT: true; the input reads as it did. -/
def rosterPlaysSpec : ChangeSpec := { name := "rosterPlays", fn := fun _ => fun
  | [d1, d2] => { results := [.lit (.bool true)], args := [d1, d2] }
  | _ => none }
def rosterPlaysRow : OpenClaim := { program := "ytdipflebhoodkaa", sum := "97bfa6c3b26e53b38a9ed18ac0b2c9da9504684a656a73b1dd765780f49ea570", func := "epitaph/epitaphlaw26.RosterPlays", spec := "rosterPlays", unfollowed := true, recurses := true, apart := false }
def RosterPlaysSaid : Prop := rosterPlaysRow.holds Try.pinned (OpenSpec.ofChange rosterPlaysSpec)

/-- ITS FALSE NEIGHBOUR: 'it returns false'. Refute it at one input. -/
def rosterPlaysWrong : ChangeSpec := { name := "rosterPlays", fn := fun _ => fun
  | [d1, d2] => { results := [.lit (.bool false)], args := [d1, d2] }
  | _ => none }
def RosterPlaysWrongFalsely : Prop := rosterPlaysRow.holds Try.pinned (OpenSpec.ofChange rosterPlaysWrong)

/-- 'epitaphlaw06.RunsLaws': WHATEVER THE INPUT: true; the input reads as it did. -/
def runsLawsSpec : ChangeSpec := { name := "runsLaws", fn := fun _ => fun
  | [d1, d2, d3] => { results := [.lit (.bool true)], args := [d1, d2, d3] }
  | _ => none }
def runsLawsRow : OpenClaim := { program := "ytdipflebhoodkaa", sum := "97bfa6c3b26e53b38a9ed18ac0b2c9da9504684a656a73b1dd765780f49ea570", func := "epitaph/epitaphlaw06.RunsLaws", spec := "runsLaws", unfollowed := true, recurses := true, apart := false }
def RunsLawsSaid : Prop := runsLawsRow.holds Try.pinned (OpenSpec.ofChange runsLawsSpec)

/-- ITS FALSE NEIGHBOUR: 'it returns false'. Refute it at one input. -/
def runsLawsWrong : ChangeSpec := { name := "runsLaws", fn := fun _ => fun
  | [d1, d2, d3] => { results := [.lit (.bool false)], args := [d1, d2, d3] }
  | _ => none }
def RunsLawsWrongFalsely : Prop := runsLawsRow.holds Try.pinned (OpenSpec.ofChange runsLawsWrong)

/- THE SECOND FORM. 'bulk': how many values and letters a reading holds, each counted each time it is reached (what is shared counts as often as it is met; a slice's spare places count too). A statement '..UptoSaid' is the law's where the arguments, and the package variables that the reading takes, are together of bulk at most 1048576: NARROWER than '..Said'. Prove '..Said' where nothing that the law and all that it calls make is longer than what came in: it says more and counts as full. Else prove '..UptoSaid'. A law counts once. -/
mutual
def uptoBulk {H : Type} : DataW H → Nat
  | .lit (.string bytes) => bytes.length + 1
  | .lit _ => 1
  | .nil => 1
  | .ptr d => uptoBulk d + 1
  | .slice elems spare => uptoBulkAll elems + uptoBulkAll spare + 1
  | .agg parts => uptoBulkAll parts + 1
  | .iface _ d => uptoBulk d + 1
  | .map entries => uptoBulkEntries entries + 1
  | .held _ => 1
def uptoBulkAll {H : Type} : List (DataW H) → Nat
  | [] => 0
  | d :: r => uptoBulk d + uptoBulkAll r
def uptoBulkEntries {H : Type} : List (Lit × DataW H) → Nat
  | [] => 0
  | x :: r => uptoBulkEntry x + uptoBulkEntries r
def uptoBulkEntry {H : Type} : Lit × DataW H → Nat
  | (.string bytes, d) => bytes.length + uptoBulk d + 1
  | (_, d) => uptoBulk d + 1
 end
def uptoSmall : (H : Type) → List (DataW H) → Bool := fun _ ds => decide (uptoBulkAll ds ≤ 1048576)
def OpenSpec.upto (s : _root_.Go.ChangeSpec) : _root_.Go.OpenSpec := { _root_.Go.OpenSpec.ofChange s with cond := some uptoSmall }

/-- 'epitaphlaw29.OutboxAll', WHERE WHAT IT READS IS OF BULK AT MOST 1048576: true; the input reads as it did. -/
def outboxAllUptoRow : OpenClaim := { program := "ytdipflebhoodkaa", sum := "97bfa6c3b26e53b38a9ed18ac0b2c9da9504684a656a73b1dd765780f49ea570", func := "epitaph/epitaphlaw29.OutboxAll", spec := "outboxAll", apart := false, narrowed := true }
def OutboxAllUptoSaid : Prop := outboxAllUptoRow.holds Try.pinned (OpenSpec.upto outboxAllSpec)

/-- 'epitaphlaw06.RunsEach', WHERE WHAT IT READS IS OF BULK AT MOST 1048576: true; the input reads as it did. -/
def runsEachUptoRow : OpenClaim := { program := "ytdipflebhoodkaa", sum := "97bfa6c3b26e53b38a9ed18ac0b2c9da9504684a656a73b1dd765780f49ea570", func := "epitaph/epitaphlaw06.RunsEach", spec := "runsEach", unfollowed := true, recurses := true, apart := false, narrowed := true }
def RunsEachUptoSaid : Prop := runsEachUptoRow.holds Try.pinned (OpenSpec.upto runsEachSpec)

/-- 'epitaphlaw26.RosterOnce', WHERE WHAT IT READS IS OF BULK AT MOST 1048576: true; the input reads as it did. -/
def rosterOnceUptoRow : OpenClaim := { program := "ytdipflebhoodkaa", sum := "97bfa6c3b26e53b38a9ed18ac0b2c9da9504684a656a73b1dd765780f49ea570", func := "epitaph/epitaphlaw26.RosterOnce", spec := "rosterOnce", unfollowed := true, recurses := true, apart := false, narrowed := true }
def RosterOnceUptoSaid : Prop := rosterOnceUptoRow.holds Try.pinned (OpenSpec.upto rosterOnceSpec)

/-- 'epitaphlaw08.VecPairs', WHERE WHAT IT READS IS OF BULK AT MOST 1048576: true; the input reads as it did. -/
def vecPairsUptoRow : OpenClaim := { program := "ytdipflebhoodkaa", sum := "97bfa6c3b26e53b38a9ed18ac0b2c9da9504684a656a73b1dd765780f49ea570", func := "epitaph/epitaphlaw08.VecPairs", spec := "vecPairs", unfollowed := true, recurses := true, apart := false, narrowed := true }
def VecPairsUptoSaid : Prop := vecPairsUptoRow.holds Try.pinned (OpenSpec.upto vecPairsSpec)

/-- 'epitaphlaw08.VecHas', WHERE WHAT IT READS IS OF BULK AT MOST 1048576: true; the input reads as it did. -/
def vecHasUptoRow : OpenClaim := { program := "ytdipflebhoodkaa", sum := "97bfa6c3b26e53b38a9ed18ac0b2c9da9504684a656a73b1dd765780f49ea570", func := "epitaph/epitaphlaw08.VecHas", spec := "vecHas", unfollowed := true, recurses := true, apart := false, narrowed := true }
def VecHasUptoSaid : Prop := vecHasUptoRow.holds Try.pinned (OpenSpec.upto vecHasSpec)

/-- 'epitaphlaw26.RosterFrom', WHERE WHAT IT READS IS OF BULK AT MOST 1048576: true; the input reads as it did. -/
def rosterFromUptoRow : OpenClaim := { program := "ytdipflebhoodkaa", sum := "97bfa6c3b26e53b38a9ed18ac0b2c9da9504684a656a73b1dd765780f49ea570", func := "epitaph/epitaphlaw26.RosterFrom", spec := "rosterFrom", unfollowed := true, recurses := true, apart := false, narrowed := true }
def RosterFromUptoSaid : Prop := rosterFromUptoRow.holds Try.pinned (OpenSpec.upto rosterFromSpec)

/-- 'epitaphlaw08.VecLaws', WHERE WHAT IT READS IS OF BULK AT MOST 1048576: true; the input reads as it did. -/
def vecLawsUptoRow : OpenClaim := { program := "ytdipflebhoodkaa", sum := "97bfa6c3b26e53b38a9ed18ac0b2c9da9504684a656a73b1dd765780f49ea570", func := "epitaph/epitaphlaw08.VecLaws", spec := "vecLaws", unfollowed := true, recurses := true, apart := false, narrowed := true }
def VecLawsUptoSaid : Prop := vecLawsUptoRow.holds Try.pinned (OpenSpec.upto vecLawsSpec)

/-- 'epitaphlaw08.VecTells', WHERE WHAT IT READS IS OF BULK AT MOST 1048576: true; the input reads as it did. -/
def vecTellsUptoRow : OpenClaim := { program := "ytdipflebhoodkaa", sum := "97bfa6c3b26e53b38a9ed18ac0b2c9da9504684a656a73b1dd765780f49ea570", func := "epitaph/epitaphlaw08.VecTells", spec := "vecTells", unfollowed := true, recurses := true, apart := false, narrowed := true }
def VecTellsUptoSaid : Prop := vecTellsUptoRow.holds Try.pinned (OpenSpec.upto vecTellsSpec)

/-- 'epitaphlaw26.RosterNil', WHERE WHAT IT READS IS OF BULK AT MOST 1048576: true; the input reads as it did. -/
def rosterNilUptoRow : OpenClaim := { program := "ytdipflebhoodkaa", sum := "97bfa6c3b26e53b38a9ed18ac0b2c9da9504684a656a73b1dd765780f49ea570", func := "epitaph/epitaphlaw26.RosterNil", spec := "rosterNil", unfollowed := true, recurses := true, apart := false, narrowed := true }
def RosterNilUptoSaid : Prop := rosterNilUptoRow.holds Try.pinned (OpenSpec.upto rosterNilSpec)

/-- 'epitaphlaw06.RunsTells', WHERE WHAT IT READS IS OF BULK AT MOST 1048576: true; the input reads as it did. -/
def runsTellsUptoRow : OpenClaim := { program := "ytdipflebhoodkaa", sum := "97bfa6c3b26e53b38a9ed18ac0b2c9da9504684a656a73b1dd765780f49ea570", func := "epitaph/epitaphlaw06.RunsTells", spec := "runsTells", unfollowed := true, recurses := true, apart := false, narrowed := true }
def RunsTellsUptoSaid : Prop := runsTellsUptoRow.holds Try.pinned (OpenSpec.upto runsTellsSpec)

/-- 'epitaphlaw06.RunsOrder', WHERE WHAT IT READS IS OF BULK AT MOST 1048576: true; the input reads as it did. -/
def runsOrderUptoRow : OpenClaim := { program := "ytdipflebhoodkaa", sum := "97bfa6c3b26e53b38a9ed18ac0b2c9da9504684a656a73b1dd765780f49ea570", func := "epitaph/epitaphlaw06.RunsOrder", spec := "runsOrder", unfollowed := true, recurses := true, apart := false, narrowed := true }
def RunsOrderUptoSaid : Prop := runsOrderUptoRow.holds Try.pinned (OpenSpec.upto runsOrderSpec)

/-- 'epitaphlaw06.RunsSets', WHERE WHAT IT READS IS OF BULK AT MOST 1048576: true; the input reads as it did. -/
def runsSetsUptoRow : OpenClaim := { program := "ytdipflebhoodkaa", sum := "97bfa6c3b26e53b38a9ed18ac0b2c9da9504684a656a73b1dd765780f49ea570", func := "epitaph/epitaphlaw06.RunsSets", spec := "runsSets", unfollowed := true, recurses := true, apart := false, narrowed := true }
def RunsSetsUptoSaid : Prop := runsSetsUptoRow.holds Try.pinned (OpenSpec.upto runsSetsSpec)

/-- 'epitaphlaw26.RosterPlays', WHERE WHAT IT READS IS OF BULK AT MOST 1048576: true; the input reads as it did. -/
def rosterPlaysUptoRow : OpenClaim := { program := "ytdipflebhoodkaa", sum := "97bfa6c3b26e53b38a9ed18ac0b2c9da9504684a656a73b1dd765780f49ea570", func := "epitaph/epitaphlaw26.RosterPlays", spec := "rosterPlays", unfollowed := true, recurses := true, apart := false, narrowed := true }
def RosterPlaysUptoSaid : Prop := rosterPlaysUptoRow.holds Try.pinned (OpenSpec.upto rosterPlaysSpec)

/-- 'epitaphlaw06.RunsLaws', WHERE WHAT IT READS IS OF BULK AT MOST 1048576: true; the input reads as it did. -/
def runsLawsUptoRow : OpenClaim := { program := "ytdipflebhoodkaa", sum := "97bfa6c3b26e53b38a9ed18ac0b2c9da9504684a656a73b1dd765780f49ea570", func := "epitaph/epitaphlaw06.RunsLaws", spec := "runsLaws", unfollowed := true, recurses := true, apart := false, narrowed := true }
def RunsLawsUptoSaid : Prop := runsLawsUptoRow.holds Try.pinned (OpenSpec.upto runsLawsSpec)

end Rows
end Go.Proofs.Ytdipflebhoodkaa
