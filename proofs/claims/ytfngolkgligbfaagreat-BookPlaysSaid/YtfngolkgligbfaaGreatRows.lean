/-
  No cell of these rows narrows 'for every input' (looked for: loops, veiled, ifaces, maps, wideKeys, modest, calm, conditions, laid).
  DERIVED. THE GIVEN ROWS OF THIS SEAT. 12 by the template 'for every input the law returns true; each argument reads behind the call as it read before'; 0 by the template 'total and deterministic' (their statements: YtfngolkgligbfaaGreatTotals.lean).
  GIVEN WITH THE SEED: the statements are not yours to turn. If you find one false, say at which input.
  Laid BY PROGRAM, IN A SANDBOX (cutbox-rows.mjs): the forced cells as the released guide's own fill.sh prints them over the translation be2f60eb509562c2… (all of the seat's roots in one cut). By AI agents, Wed Nov 11 2026. No macro, syntax, notation, axiom, sorry.
-/
import Derived.Test.YtfngolkgligbfaaGreatChecked
import GoSem.Claim
import GoSem.ClaimJoined
import GoSem.ClaimMapViews
import Derived.JoinedTies
import Derived.KernelRfl
namespace Go.Proofs.YtfngolkgligbfaaGreat
/- THE CELL 'sum', in the pinned program and in every row, IS THE sha256 OF THE DUMP (.gsa) THAT YtfngolkgligbfaaGreatProg.lean LOADS. Nothing in Lean hashes anything: it is a label: what it is worth is what the hold of that sum in a sandbox is worth. -/
noncomputable def Tryz.pinned : Pinned := { name := "ytfngolkgligbfaagreat", sum := "be2f60eb509562c290fabe6b357a8706f67fcffd7ba274c28b60832b13daef40", checked := Tryz.checked }
namespace Rows
def none {H : Type} : Left H := { results := [], args := [] }

/-- 'epitaphlaw18.BookOrder': WHATEVER THE INPUT: true; the input reads as it did. -/
def bookOrderSpec : ChangeSpec := { name := "bookOrder", fn := fun _ => fun
  | [d1, d2] => { results := [.lit (.bool true)], args := [d1, d2] }
  | _ => none }
def bookOrderRow : OpenClaim := { program := "ytfngolkgligbfaagreat", sum := "be2f60eb509562c290fabe6b357a8706f67fcffd7ba274c28b60832b13daef40", func := "epitaph/epitaphlaw18.BookOrder", spec := "bookOrder", unfollowed := true, recurses := true, plainKeys := false, apart := false }
def BookOrderSaid : Prop := bookOrderRow.holds Tryz.pinned (OpenSpec.ofChange bookOrderSpec)

/-- ITS FALSE NEIGHBOUR: 'it returns false'. Refute it at one input. -/
def bookOrderWrong : ChangeSpec := { name := "bookOrder", fn := fun _ => fun
  | [d1, d2] => { results := [.lit (.bool false)], args := [d1, d2] }
  | _ => none }
def BookOrderWrongFalsely : Prop := bookOrderRow.holds Tryz.pinned (OpenSpec.ofChange bookOrderWrong)

/-- 'epitaphlaw27.MsgTells': WHATEVER THE INPUT: true; the input reads as it did. -/
def msgTellsSpec : ChangeSpec := { name := "msgTells", fn := fun _ => fun
  | [d1, d2, d3] => { results := [.lit (.bool true)], args := [d1, d2, d3] }
  | _ => none }
def msgTellsRow : OpenClaim := { program := "ytfngolkgligbfaagreat", sum := "be2f60eb509562c290fabe6b357a8706f67fcffd7ba274c28b60832b13daef40", func := "epitaph/epitaphlaw27.MsgTells", spec := "msgTells", unfollowed := true, recurses := true, plainKeys := false, apart := false }
def MsgTellsSaid : Prop := msgTellsRow.holds Tryz.pinned (OpenSpec.ofChange msgTellsSpec)

/-- ITS FALSE NEIGHBOUR: 'it returns false'. Refute it at one input. -/
def msgTellsWrong : ChangeSpec := { name := "msgTells", fn := fun _ => fun
  | [d1, d2, d3] => { results := [.lit (.bool false)], args := [d1, d2, d3] }
  | _ => none }
def MsgTellsWrongFalsely : Prop := msgTellsRow.holds Tryz.pinned (OpenSpec.ofChange msgTellsWrong)

/-- 'epitaphlaw21.BcodeWrites': WHATEVER THE INPUT: true; the input reads as it did. -/
def bcodeWritesSpec : ChangeSpec := { name := "bcodeWrites", fn := fun _ => fun
  | [d1, d2] => { results := [.lit (.bool true)], args := [d1, d2] }
  | _ => none }
def bcodeWritesRow : OpenClaim := { program := "ytfngolkgligbfaagreat", sum := "be2f60eb509562c290fabe6b357a8706f67fcffd7ba274c28b60832b13daef40", func := "epitaph/epitaphlaw21.BcodeWrites", spec := "bcodeWrites", unfollowed := true, recurses := true, plainKeys := false, apart := false }
def BcodeWritesSaid : Prop := bcodeWritesRow.holds Tryz.pinned (OpenSpec.ofChange bcodeWritesSpec)

/-- ITS FALSE NEIGHBOUR: 'it returns false'. Refute it at one input. -/
def bcodeWritesWrong : ChangeSpec := { name := "bcodeWrites", fn := fun _ => fun
  | [d1, d2] => { results := [.lit (.bool false)], args := [d1, d2] }
  | _ => none }
def BcodeWritesWrongFalsely : Prop := bcodeWritesRow.holds Tryz.pinned (OpenSpec.ofChange bcodeWritesWrong)

/-- 'epitaphlaw27.MsgOwn': WHATEVER THE INPUT: true; the input reads as it did. -/
def msgOwnSpec : ChangeSpec := { name := "msgOwn", fn := fun _ => fun
  | [d] => { results := [.lit (.bool true)], args := [d] }
  | _ => none }
def msgOwnRow : OpenClaim := { program := "ytfngolkgligbfaagreat", sum := "be2f60eb509562c290fabe6b357a8706f67fcffd7ba274c28b60832b13daef40", func := "epitaph/epitaphlaw27.MsgOwn", spec := "msgOwn", unfollowed := true, recurses := true, plainKeys := false, apart := false }
def MsgOwnSaid : Prop := msgOwnRow.holds Tryz.pinned (OpenSpec.ofChange msgOwnSpec)

/-- ITS FALSE NEIGHBOUR: 'it returns false'. Refute it at one input. -/
def msgOwnWrong : ChangeSpec := { name := "msgOwn", fn := fun _ => fun
  | [d] => { results := [.lit (.bool false)], args := [d] }
  | _ => none }
def MsgOwnWrongFalsely : Prop := msgOwnRow.holds Tryz.pinned (OpenSpec.ofChange msgOwnWrong)

/-- 'epitaphlaw29.OutboxUnsent': WHATEVER THE INPUT: true; the input reads as it did. -/
def outboxUnsentSpec : ChangeSpec := { name := "outboxUnsent", fn := fun _ => fun
  | [d1, d2, d3] => { results := [.lit (.bool true)], args := [d1, d2, d3] }
  | _ => none }
def outboxUnsentRow : OpenClaim := { program := "ytfngolkgligbfaagreat", sum := "be2f60eb509562c290fabe6b357a8706f67fcffd7ba274c28b60832b13daef40", func := "epitaph/epitaphlaw29.OutboxUnsent", spec := "outboxUnsent", unfollowed := true, recurses := true, plainKeys := false, apart := false }
def OutboxUnsentSaid : Prop := outboxUnsentRow.holds Tryz.pinned (OpenSpec.ofChange outboxUnsentSpec)

/-- ITS FALSE NEIGHBOUR: 'it returns false'. Refute it at one input. -/
def outboxUnsentWrong : ChangeSpec := { name := "outboxUnsent", fn := fun _ => fun
  | [d1, d2, d3] => { results := [.lit (.bool false)], args := [d1, d2, d3] }
  | _ => none }
def OutboxUnsentWrongFalsely : Prop := outboxUnsentRow.holds Tryz.pinned (OpenSpec.ofChange outboxUnsentWrong)

/-- 'epitaphlaw18.BookPlays': WHATEVER THE INPUT: true; the input reads as it did. -/
def bookPlaysSpec : ChangeSpec := { name := "bookPlays", fn := fun _ => fun
  | [d] => { results := [.lit (.bool true)], args := [d] }
  | _ => none }
def bookPlaysRow : OpenClaim := { program := "ytfngolkgligbfaagreat", sum := "be2f60eb509562c290fabe6b357a8706f67fcffd7ba274c28b60832b13daef40", func := "epitaph/epitaphlaw18.BookPlays", spec := "bookPlays", unfollowed := true, recurses := true, plainKeys := false, apart := false }
def BookPlaysSaid : Prop := bookPlaysRow.holds Tryz.pinned (OpenSpec.ofChange bookPlaysSpec)

/-- ITS FALSE NEIGHBOUR: 'it returns false'. Refute it at one input. -/
def bookPlaysWrong : ChangeSpec := { name := "bookPlays", fn := fun _ => fun
  | [d] => { results := [.lit (.bool false)], args := [d] }
  | _ => none }
def BookPlaysWrongFalsely : Prop := bookPlaysRow.holds Tryz.pinned (OpenSpec.ofChange bookPlaysWrong)

/-- 'epitaphlaw18.BookNil': WHATEVER THE INPUT: true; the input reads as it did. -/
def bookNilSpec : ChangeSpec := { name := "bookNil", fn := fun _ => fun
  | [d1, d2] => { results := [.lit (.bool true)], args := [d1, d2] }
  | _ => none }
def bookNilRow : OpenClaim := { program := "ytfngolkgligbfaagreat", sum := "be2f60eb509562c290fabe6b357a8706f67fcffd7ba274c28b60832b13daef40", func := "epitaph/epitaphlaw18.BookNil", spec := "bookNil", unfollowed := true, recurses := true, plainKeys := false, apart := false }
def BookNilSaid : Prop := bookNilRow.holds Tryz.pinned (OpenSpec.ofChange bookNilSpec)

/-- ITS FALSE NEIGHBOUR: 'it returns false'. Refute it at one input. -/
def bookNilWrong : ChangeSpec := { name := "bookNil", fn := fun _ => fun
  | [d1, d2] => { results := [.lit (.bool false)], args := [d1, d2] }
  | _ => none }
def BookNilWrongFalsely : Prop := bookNilRow.holds Tryz.pinned (OpenSpec.ofChange bookNilWrong)

/-- 'epitaphlaw18.BookFrom': WHATEVER THE INPUT: true; the input reads as it did. -/
def bookFromSpec : ChangeSpec := { name := "bookFrom", fn := fun _ => fun
  | [d1, d2, d3] => { results := [.lit (.bool true)], args := [d1, d2, d3] }
  | _ => none }
def bookFromRow : OpenClaim := { program := "ytfngolkgligbfaagreat", sum := "be2f60eb509562c290fabe6b357a8706f67fcffd7ba274c28b60832b13daef40", func := "epitaph/epitaphlaw18.BookFrom", spec := "bookFrom", unfollowed := true, recurses := true, plainKeys := false, apart := false }
def BookFromSaid : Prop := bookFromRow.holds Tryz.pinned (OpenSpec.ofChange bookFromSpec)

/-- ITS FALSE NEIGHBOUR: 'it returns false'. Refute it at one input. -/
def bookFromWrong : ChangeSpec := { name := "bookFrom", fn := fun _ => fun
  | [d1, d2, d3] => { results := [.lit (.bool false)], args := [d1, d2, d3] }
  | _ => none }
def BookFromWrongFalsely : Prop := bookFromRow.holds Tryz.pinned (OpenSpec.ofChange bookFromWrong)

/-- 'epitaphlaw20.DeltaSays': WHATEVER THE INPUT: true; the input reads as it did. -/
def deltaSaysSpec : ChangeSpec := { name := "deltaSays", fn := fun _ => fun
  | [d1, d2, d3] => { results := [.lit (.bool true)], args := [d1, d2, d3] }
  | _ => none }
def deltaSaysRow : OpenClaim := { program := "ytfngolkgligbfaagreat", sum := "be2f60eb509562c290fabe6b357a8706f67fcffd7ba274c28b60832b13daef40", func := "epitaph/epitaphlaw20.DeltaSays", spec := "deltaSays", unfollowed := true, recurses := true, plainKeys := false, apart := false }
def DeltaSaysSaid : Prop := deltaSaysRow.holds Tryz.pinned (OpenSpec.ofChange deltaSaysSpec)

/-- ITS FALSE NEIGHBOUR: 'it returns false'. Refute it at one input. -/
def deltaSaysWrong : ChangeSpec := { name := "deltaSays", fn := fun _ => fun
  | [d1, d2, d3] => { results := [.lit (.bool false)], args := [d1, d2, d3] }
  | _ => none }
def DeltaSaysWrongFalsely : Prop := deltaSaysRow.holds Tryz.pinned (OpenSpec.ofChange deltaSaysWrong)

/-- 'epitaphlaw20.DeltaOwn': WHATEVER THE INPUT: true; the input reads as it did. -/
def deltaOwnSpec : ChangeSpec := { name := "deltaOwn", fn := fun _ => fun
  | [d1, d2] => { results := [.lit (.bool true)], args := [d1, d2] }
  | _ => none }
def deltaOwnRow : OpenClaim := { program := "ytfngolkgligbfaagreat", sum := "be2f60eb509562c290fabe6b357a8706f67fcffd7ba274c28b60832b13daef40", func := "epitaph/epitaphlaw20.DeltaOwn", spec := "deltaOwn", unfollowed := true, recurses := true, plainKeys := false, apart := false }
def DeltaOwnSaid : Prop := deltaOwnRow.holds Tryz.pinned (OpenSpec.ofChange deltaOwnSpec)

/-- ITS FALSE NEIGHBOUR: 'it returns false'. Refute it at one input. -/
def deltaOwnWrong : ChangeSpec := { name := "deltaOwn", fn := fun _ => fun
  | [d1, d2] => { results := [.lit (.bool false)], args := [d1, d2] }
  | _ => none }
def DeltaOwnWrongFalsely : Prop := deltaOwnRow.holds Tryz.pinned (OpenSpec.ofChange deltaOwnWrong)

/-- 'epitaphlaw20.DeltaRight': WHATEVER THE INPUT: true; the input reads as it did. -/
def deltaRightSpec : ChangeSpec := { name := "deltaRight", fn := fun _ => fun
  | [d] => { results := [.lit (.bool true)], args := [d] }
  | _ => none }
def deltaRightRow : OpenClaim := { program := "ytfngolkgligbfaagreat", sum := "be2f60eb509562c290fabe6b357a8706f67fcffd7ba274c28b60832b13daef40", func := "epitaph/epitaphlaw20.DeltaRight", spec := "deltaRight", unfollowed := true, recurses := true, plainKeys := false, apart := false }
def DeltaRightSaid : Prop := deltaRightRow.holds Tryz.pinned (OpenSpec.ofChange deltaRightSpec)

/-- ITS FALSE NEIGHBOUR: 'it returns false'. Refute it at one input. -/
def deltaRightWrong : ChangeSpec := { name := "deltaRight", fn := fun _ => fun
  | [d] => { results := [.lit (.bool false)], args := [d] }
  | _ => none }
def DeltaRightWrongFalsely : Prop := deltaRightRow.holds Tryz.pinned (OpenSpec.ofChange deltaRightWrong)

/-- 'epitaphlaw20.DeltaSettles': WHATEVER THE INPUT: true; the input reads as it did. -/
def deltaSettlesSpec : ChangeSpec := { name := "deltaSettles", fn := fun _ => fun
  | [d1, d2] => { results := [.lit (.bool true)], args := [d1, d2] }
  | _ => none }
def deltaSettlesRow : OpenClaim := { program := "ytfngolkgligbfaagreat", sum := "be2f60eb509562c290fabe6b357a8706f67fcffd7ba274c28b60832b13daef40", func := "epitaph/epitaphlaw20.DeltaSettles", spec := "deltaSettles", unfollowed := true, recurses := true, plainKeys := false, apart := false }
def DeltaSettlesSaid : Prop := deltaSettlesRow.holds Tryz.pinned (OpenSpec.ofChange deltaSettlesSpec)

/-- ITS FALSE NEIGHBOUR: 'it returns false'. Refute it at one input. -/
def deltaSettlesWrong : ChangeSpec := { name := "deltaSettles", fn := fun _ => fun
  | [d1, d2] => { results := [.lit (.bool false)], args := [d1, d2] }
  | _ => none }
def DeltaSettlesWrongFalsely : Prop := deltaSettlesRow.holds Tryz.pinned (OpenSpec.ofChange deltaSettlesWrong)

/- THE SECOND FORM. 'bulk': how many values and letters a reading holds, each counted each time it is reached (what is shared counts as often as it is met; a slice's spare places count too). A statement '..UptoSaid' is the law's where the arguments, and the package variables that the reading takes, are together of bulk at most 1048576: NARROWER than '..Said'. Prove '..Said' where nothing that the law and all that it calls make is longer than what came in: it says more and counts as full. Else prove '..UptoSaid'. A law counts once. -/
mutual
def uptoBulk {H : Type} : DataW H → Nat
  | .lit (.string bytes) => bytes.length + 1
  | .lit _ => 1
  | .nil => 1
  | .ptr d => uptoBulk d + 1
  | .slice elems spare => uptoBulkAll elems + uptoBulkAll spare + 1
  | .agg parts => uptoBulkAll parts + 1
  | .iface _ d => uptoBulk d + 1
  | .map entries => uptoBulkEntries entries + 1
  | .held _ => 1
def uptoBulkAll {H : Type} : List (DataW H) → Nat
  | [] => 0
  | d :: r => uptoBulk d + uptoBulkAll r
def uptoBulkEntries {H : Type} : List (Lit × DataW H) → Nat
  | [] => 0
  | x :: r => uptoBulkEntry x + uptoBulkEntries r
def uptoBulkEntry {H : Type} : Lit × DataW H → Nat
  | (.string bytes, d) => bytes.length + uptoBulk d + 1
  | (_, d) => uptoBulk d + 1
 end
def uptoSmall : (H : Type) → List (DataW H) → Bool := fun _ ds => decide (uptoBulkAll ds ≤ 1048576)
def OpenSpec.upto (s : _root_.Go.ChangeSpec) : _root_.Go.OpenSpec := { _root_.Go.OpenSpec.ofChange s with cond := some uptoSmall }

/-- 'epitaphlaw18.BookOrder', WHERE WHAT IT READS IS OF BULK AT MOST 1048576: true; the input reads as it did. -/
def bookOrderUptoRow : OpenClaim := { program := "ytfngolkgligbfaagreat", sum := "be2f60eb509562c290fabe6b357a8706f67fcffd7ba274c28b60832b13daef40", func := "epitaph/epitaphlaw18.BookOrder", spec := "bookOrder", unfollowed := true, recurses := true, plainKeys := false, apart := false, narrowed := true }
def BookOrderUptoSaid : Prop := bookOrderUptoRow.holds Tryz.pinned (OpenSpec.upto bookOrderSpec)

/-- 'epitaphlaw27.MsgTells', WHERE WHAT IT READS IS OF BULK AT MOST 1048576: true; the input reads as it did. -/
def msgTellsUptoRow : OpenClaim := { program := "ytfngolkgligbfaagreat", sum := "be2f60eb509562c290fabe6b357a8706f67fcffd7ba274c28b60832b13daef40", func := "epitaph/epitaphlaw27.MsgTells", spec := "msgTells", unfollowed := true, recurses := true, plainKeys := false, apart := false, narrowed := true }
def MsgTellsUptoSaid : Prop := msgTellsUptoRow.holds Tryz.pinned (OpenSpec.upto msgTellsSpec)

/-- 'epitaphlaw21.BcodeWrites', WHERE WHAT IT READS IS OF BULK AT MOST 1048576: true; the input reads as it did. -/
def bcodeWritesUptoRow : OpenClaim := { program := "ytfngolkgligbfaagreat", sum := "be2f60eb509562c290fabe6b357a8706f67fcffd7ba274c28b60832b13daef40", func := "epitaph/epitaphlaw21.BcodeWrites", spec := "bcodeWrites", unfollowed := true, recurses := true, plainKeys := false, apart := false, narrowed := true }
def BcodeWritesUptoSaid : Prop := bcodeWritesUptoRow.holds Tryz.pinned (OpenSpec.upto bcodeWritesSpec)

/-- 'epitaphlaw27.MsgOwn', WHERE WHAT IT READS IS OF BULK AT MOST 1048576: true; the input reads as it did. -/
def msgOwnUptoRow : OpenClaim := { program := "ytfngolkgligbfaagreat", sum := "be2f60eb509562c290fabe6b357a8706f67fcffd7ba274c28b60832b13daef40", func := "epitaph/epitaphlaw27.MsgOwn", spec := "msgOwn", unfollowed := true, recurses := true, plainKeys := false, apart := false, narrowed := true }
def MsgOwnUptoSaid : Prop := msgOwnUptoRow.holds Tryz.pinned (OpenSpec.upto msgOwnSpec)

/-- 'epitaphlaw29.OutboxUnsent', WHERE WHAT IT READS IS OF BULK AT MOST 1048576: true; the input reads as it did. -/
def outboxUnsentUptoRow : OpenClaim := { program := "ytfngolkgligbfaagreat", sum := "be2f60eb509562c290fabe6b357a8706f67fcffd7ba274c28b60832b13daef40", func := "epitaph/epitaphlaw29.OutboxUnsent", spec := "outboxUnsent", unfollowed := true, recurses := true, plainKeys := false, apart := false, narrowed := true }
def OutboxUnsentUptoSaid : Prop := outboxUnsentUptoRow.holds Tryz.pinned (OpenSpec.upto outboxUnsentSpec)

/-- 'epitaphlaw18.BookPlays', WHERE WHAT IT READS IS OF BULK AT MOST 1048576: true; the input reads as it did. -/
def bookPlaysUptoRow : OpenClaim := { program := "ytfngolkgligbfaagreat", sum := "be2f60eb509562c290fabe6b357a8706f67fcffd7ba274c28b60832b13daef40", func := "epitaph/epitaphlaw18.BookPlays", spec := "bookPlays", unfollowed := true, recurses := true, plainKeys := false, apart := false, narrowed := true }
def BookPlaysUptoSaid : Prop := bookPlaysUptoRow.holds Tryz.pinned (OpenSpec.upto bookPlaysSpec)

/-- 'epitaphlaw18.BookNil', WHERE WHAT IT READS IS OF BULK AT MOST 1048576: true; the input reads as it did. -/
def bookNilUptoRow : OpenClaim := { program := "ytfngolkgligbfaagreat", sum := "be2f60eb509562c290fabe6b357a8706f67fcffd7ba274c28b60832b13daef40", func := "epitaph/epitaphlaw18.BookNil", spec := "bookNil", unfollowed := true, recurses := true, plainKeys := false, apart := false, narrowed := true }
def BookNilUptoSaid : Prop := bookNilUptoRow.holds Tryz.pinned (OpenSpec.upto bookNilSpec)

/-- 'epitaphlaw18.BookFrom', WHERE WHAT IT READS IS OF BULK AT MOST 1048576: true; the input reads as it did. -/
def bookFromUptoRow : OpenClaim := { program := "ytfngolkgligbfaagreat", sum := "be2f60eb509562c290fabe6b357a8706f67fcffd7ba274c28b60832b13daef40", func := "epitaph/epitaphlaw18.BookFrom", spec := "bookFrom", unfollowed := true, recurses := true, plainKeys := false, apart := false, narrowed := true }
def BookFromUptoSaid : Prop := bookFromUptoRow.holds Tryz.pinned (OpenSpec.upto bookFromSpec)

/-- 'epitaphlaw20.DeltaSays', WHERE WHAT IT READS IS OF BULK AT MOST 1048576: true; the input reads as it did. -/
def deltaSaysUptoRow : OpenClaim := { program := "ytfngolkgligbfaagreat", sum := "be2f60eb509562c290fabe6b357a8706f67fcffd7ba274c28b60832b13daef40", func := "epitaph/epitaphlaw20.DeltaSays", spec := "deltaSays", unfollowed := true, recurses := true, plainKeys := false, apart := false, narrowed := true }
def DeltaSaysUptoSaid : Prop := deltaSaysUptoRow.holds Tryz.pinned (OpenSpec.upto deltaSaysSpec)

/-- 'epitaphlaw20.DeltaOwn', WHERE WHAT IT READS IS OF BULK AT MOST 1048576: true; the input reads as it did. -/
def deltaOwnUptoRow : OpenClaim := { program := "ytfngolkgligbfaagreat", sum := "be2f60eb509562c290fabe6b357a8706f67fcffd7ba274c28b60832b13daef40", func := "epitaph/epitaphlaw20.DeltaOwn", spec := "deltaOwn", unfollowed := true, recurses := true, plainKeys := false, apart := false, narrowed := true }
def DeltaOwnUptoSaid : Prop := deltaOwnUptoRow.holds Tryz.pinned (OpenSpec.upto deltaOwnSpec)

/-- 'epitaphlaw20.DeltaRight', WHERE WHAT IT READS IS OF BULK AT MOST 1048576: true; the input reads as it did. -/
def deltaRightUptoRow : OpenClaim := { program := "ytfngolkgligbfaagreat", sum := "be2f60eb509562c290fabe6b357a8706f67fcffd7ba274c28b60832b13daef40", func := "epitaph/epitaphlaw20.DeltaRight", spec := "deltaRight", unfollowed := true, recurses := true, plainKeys := false, apart := false, narrowed := true }
def DeltaRightUptoSaid : Prop := deltaRightUptoRow.holds Tryz.pinned (OpenSpec.upto deltaRightSpec)

/-- 'epitaphlaw20.DeltaSettles', WHERE WHAT IT READS IS OF BULK AT MOST 1048576: true; the input reads as it did. -/
def deltaSettlesUptoRow : OpenClaim := { program := "ytfngolkgligbfaagreat", sum := "be2f60eb509562c290fabe6b357a8706f67fcffd7ba274c28b60832b13daef40", func := "epitaph/epitaphlaw20.DeltaSettles", spec := "deltaSettles", unfollowed := true, recurses := true, plainKeys := false, apart := false, narrowed := true }
def DeltaSettlesUptoSaid : Prop := deltaSettlesUptoRow.holds Tryz.pinned (OpenSpec.upto deltaSettlesSpec)

end Rows
end Go.Proofs.YtfngolkgligbfaaGreat
