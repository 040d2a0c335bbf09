/-
  No cell of these rows narrows 'for every input' (looked for: loops, veiled, ifaces, maps, wideKeys, modest, calm, conditions, laid).
  DERIVED. THE GIVEN ROWS OF THIS SEAT. 6 by the template 'for every input the law returns true; each argument reads behind the call as it read before'; 0 by the template 'total and deterministic' (their statements: YtcjpghiceebkfaaTotals.lean).
  GIVEN WITH THE SEED: the statements are not yours to turn. If you find one false, say at which input.
  Laid BY PROGRAM, IN A SANDBOX (cutbox-rows.mjs): the forced cells as the released guide's own fill.sh prints them over the translation e6eb14c81acffaa6… (all of the seat's roots in one cut). By AI agents, Wed Nov 11 2026. No macro, syntax, notation, axiom, sorry.
-/
import Derived.Test.YtcjpghiceebkfaaChecked
import GoSem.Claim
import GoSem.ClaimJoined
import GoSem.ClaimMapViews
import Derived.JoinedTies
import Derived.KernelRfl
namespace Go.Proofs.Ytcjpghiceebkfaa
/- THE CELL 'sum', in the pinned program and in every row, IS THE sha256 OF THE DUMP (.gsa) THAT YtcjpghiceebkfaaProg.lean LOADS. Nothing in Lean hashes anything: it is a label: what it is worth is what the hold of that sum in a sandbox is worth. -/
noncomputable def Try.pinned : Pinned := { name := "ytcjpghiceebkfaa", sum := "e6eb14c81acffaa6d2da1cd897aca734e664a8198aba2d417ea807b6932e498b", checked := Try.checked }
namespace Rows
def none {H : Type} : Left H := { results := [], args := [] }

/-- 'fastilaw22.CarrySpec': WHATEVER THE INPUT: true; the input reads as it did. -/
def carrySpecSpec : ChangeSpec := { name := "carrySpec", fn := fun _ => fun
  | [d1, d2] => { results := [.lit (.bool true)], args := [d1, d2] }
  | _ => none }
def carrySpecRow : OpenClaim := { program := "ytcjpghiceebkfaa", sum := "e6eb14c81acffaa6d2da1cd897aca734e664a8198aba2d417ea807b6932e498b", func := "fasti/fastilaw22.CarrySpec", spec := "carrySpec", unfollowed := true, recurses := true, plainKeys := false, apart := false }
def CarrySpecSaid : Prop := carrySpecRow.holds Try.pinned (OpenSpec.ofChange carrySpecSpec)

/-- ITS FALSE NEIGHBOUR: 'it returns false'. Refute it at one input. -/
def carrySpecWrong : ChangeSpec := { name := "carrySpec", fn := fun _ => fun
  | [d1, d2] => { results := [.lit (.bool false)], args := [d1, d2] }
  | _ => none }
def CarrySpecWrongFalsely : Prop := carrySpecRow.holds Try.pinned (OpenSpec.ofChange carrySpecWrong)

/-- 'fastilaw22.CarryLoadsSpec': WHATEVER THE INPUT: true; the input reads as it did. -/
def carryLoadsSpecSpec : ChangeSpec := { name := "carryLoadsSpec", fn := fun _ => fun
  | [d1, d2, d3] => { results := [.lit (.bool true)], args := [d1, d2, d3] }
  | _ => none }
def carryLoadsSpecRow : OpenClaim := { program := "ytcjpghiceebkfaa", sum := "e6eb14c81acffaa6d2da1cd897aca734e664a8198aba2d417ea807b6932e498b", func := "fasti/fastilaw22.CarryLoadsSpec", spec := "carryLoadsSpec", unfollowed := true, recurses := true, plainKeys := false, apart := false }
def CarryLoadsSpecSaid : Prop := carryLoadsSpecRow.holds Try.pinned (OpenSpec.ofChange carryLoadsSpecSpec)

/-- ITS FALSE NEIGHBOUR: 'it returns false'. Refute it at one input. -/
def carryLoadsSpecWrong : ChangeSpec := { name := "carryLoadsSpec", fn := fun _ => fun
  | [d1, d2, d3] => { results := [.lit (.bool false)], args := [d1, d2, d3] }
  | _ => none }
def CarryLoadsSpecWrongFalsely : Prop := carryLoadsSpecRow.holds Try.pinned (OpenSpec.ofChange carryLoadsSpecWrong)

/-- 'fastilaw22.CarryCounts': WHATEVER THE INPUT: true; the input reads as it did. -/
def carryCountsSpec : ChangeSpec := { name := "carryCounts", fn := fun _ => fun
  | [d1, d2] => { results := [.lit (.bool true)], args := [d1, d2] }
  | _ => none }
def carryCountsRow : OpenClaim := { program := "ytcjpghiceebkfaa", sum := "e6eb14c81acffaa6d2da1cd897aca734e664a8198aba2d417ea807b6932e498b", func := "fasti/fastilaw22.CarryCounts", spec := "carryCounts", unfollowed := true, recurses := true, plainKeys := false, apart := false }
def CarryCountsSaid : Prop := carryCountsRow.holds Try.pinned (OpenSpec.ofChange carryCountsSpec)

/-- ITS FALSE NEIGHBOUR: 'it returns false'. Refute it at one input. -/
def carryCountsWrong : ChangeSpec := { name := "carryCounts", fn := fun _ => fun
  | [d1, d2] => { results := [.lit (.bool false)], args := [d1, d2] }
  | _ => none }
def CarryCountsWrongFalsely : Prop := carryCountsRow.holds Try.pinned (OpenSpec.ofChange carryCountsWrong)

/-- 'fastilaw22.CarryRenamed': WHATEVER THE INPUT: true; the input reads as it did. -/
def carryRenamedSpec : ChangeSpec := { name := "carryRenamed", fn := fun _ => fun
  | [d1, d2, d3, d4] => { results := [.lit (.bool true)], args := [d1, d2, d3, d4] }
  | _ => none }
def carryRenamedRow : OpenClaim := { program := "ytcjpghiceebkfaa", sum := "e6eb14c81acffaa6d2da1cd897aca734e664a8198aba2d417ea807b6932e498b", func := "fasti/fastilaw22.CarryRenamed", spec := "carryRenamed", unfollowed := true, recurses := true, plainKeys := false, apart := false }
def CarryRenamedSaid : Prop := carryRenamedRow.holds Try.pinned (OpenSpec.ofChange carryRenamedSpec)

/-- ITS FALSE NEIGHBOUR: 'it returns false'. Refute it at one input. -/
def carryRenamedWrong : ChangeSpec := { name := "carryRenamed", fn := fun _ => fun
  | [d1, d2, d3, d4] => { results := [.lit (.bool false)], args := [d1, d2, d3, d4] }
  | _ => none }
def CarryRenamedWrongFalsely : Prop := carryRenamedRow.holds Try.pinned (OpenSpec.ofChange carryRenamedWrong)

/-- 'fastilaw22.CarryTurned': WHATEVER THE INPUT: true; the input reads as it did. -/
def carryTurnedSpec : ChangeSpec := { name := "carryTurned", fn := fun _ => fun
  | [d1, d2, d3] => { results := [.lit (.bool true)], args := [d1, d2, d3] }
  | _ => none }
def carryTurnedRow : OpenClaim := { program := "ytcjpghiceebkfaa", sum := "e6eb14c81acffaa6d2da1cd897aca734e664a8198aba2d417ea807b6932e498b", func := "fasti/fastilaw22.CarryTurned", spec := "carryTurned", unfollowed := true, recurses := true, plainKeys := false, apart := false }
def CarryTurnedSaid : Prop := carryTurnedRow.holds Try.pinned (OpenSpec.ofChange carryTurnedSpec)

/-- ITS FALSE NEIGHBOUR: 'it returns false'. Refute it at one input. -/
def carryTurnedWrong : ChangeSpec := { name := "carryTurned", fn := fun _ => fun
  | [d1, d2, d3] => { results := [.lit (.bool false)], args := [d1, d2, d3] }
  | _ => none }
def CarryTurnedWrongFalsely : Prop := carryTurnedRow.holds Try.pinned (OpenSpec.ofChange carryTurnedWrong)

/-- 'fastilaw22.CarryLeast': WHATEVER THE INPUT: true; the input reads as it did. -/
def carryLeastSpec : ChangeSpec := { name := "carryLeast", fn := fun _ => fun
  | [d1, d2, d3] => { results := [.lit (.bool true)], args := [d1, d2, d3] }
  | _ => none }
def carryLeastRow : OpenClaim := { program := "ytcjpghiceebkfaa", sum := "e6eb14c81acffaa6d2da1cd897aca734e664a8198aba2d417ea807b6932e498b", func := "fasti/fastilaw22.CarryLeast", spec := "carryLeast", unfollowed := true, recurses := true, plainKeys := false, apart := false }
def CarryLeastSaid : Prop := carryLeastRow.holds Try.pinned (OpenSpec.ofChange carryLeastSpec)

/-- ITS FALSE NEIGHBOUR: 'it returns false'. Refute it at one input. -/
def carryLeastWrong : ChangeSpec := { name := "carryLeast", fn := fun _ => fun
  | [d1, d2, d3] => { results := [.lit (.bool false)], args := [d1, d2, d3] }
  | _ => none }
def CarryLeastWrongFalsely : Prop := carryLeastRow.holds Try.pinned (OpenSpec.ofChange carryLeastWrong)

/- THE SECOND FORM. 'bulk': how many values and letters a reading holds, each counted each time it is reached (what is shared counts as often as it is met; a slice's spare places count too). A statement '..UptoSaid' is the law's where the arguments, and the package variables that the reading takes, are together of bulk at most 1048576: NARROWER than '..Said'. Prove '..Said' where nothing that the law and all that it calls make is longer than what came in: it says more and counts as full. Else prove '..UptoSaid'. A law counts once. -/
mutual
def uptoBulk {H : Type} : DataW H → Nat
  | .lit (.string bytes) => bytes.length + 1
  | .lit _ => 1
  | .nil => 1
  | .ptr d => uptoBulk d + 1
  | .slice elems spare => uptoBulkAll elems + uptoBulkAll spare + 1
  | .agg parts => uptoBulkAll parts + 1
  | .iface _ d => uptoBulk d + 1
  | .map entries => uptoBulkEntries entries + 1
  | .held _ => 1
def uptoBulkAll {H : Type} : List (DataW H) → Nat
  | [] => 0
  | d :: r => uptoBulk d + uptoBulkAll r
def uptoBulkEntries {H : Type} : List (Lit × DataW H) → Nat
  | [] => 0
  | x :: r => uptoBulkEntry x + uptoBulkEntries r
def uptoBulkEntry {H : Type} : Lit × DataW H → Nat
  | (.string bytes, d) => bytes.length + uptoBulk d + 1
  | (_, d) => uptoBulk d + 1
 end
def uptoSmall : (H : Type) → List (DataW H) → Bool := fun _ ds => decide (uptoBulkAll ds ≤ 1048576)
def OpenSpec.upto (s : _root_.Go.ChangeSpec) : _root_.Go.OpenSpec := { _root_.Go.OpenSpec.ofChange s with cond := some uptoSmall }

/-- 'fastilaw22.CarrySpec', WHERE WHAT IT READS IS OF BULK AT MOST 1048576: true; the input reads as it did. -/
def carrySpecUptoRow : OpenClaim := { program := "ytcjpghiceebkfaa", sum := "e6eb14c81acffaa6d2da1cd897aca734e664a8198aba2d417ea807b6932e498b", func := "fasti/fastilaw22.CarrySpec", spec := "carrySpec", unfollowed := true, recurses := true, plainKeys := false, apart := false, narrowed := true }
def CarrySpecUptoSaid : Prop := carrySpecUptoRow.holds Try.pinned (OpenSpec.upto carrySpecSpec)

/-- 'fastilaw22.CarryLoadsSpec', WHERE WHAT IT READS IS OF BULK AT MOST 1048576: true; the input reads as it did. -/
def carryLoadsSpecUptoRow : OpenClaim := { program := "ytcjpghiceebkfaa", sum := "e6eb14c81acffaa6d2da1cd897aca734e664a8198aba2d417ea807b6932e498b", func := "fasti/fastilaw22.CarryLoadsSpec", spec := "carryLoadsSpec", unfollowed := true, recurses := true, plainKeys := false, apart := false, narrowed := true }
def CarryLoadsSpecUptoSaid : Prop := carryLoadsSpecUptoRow.holds Try.pinned (OpenSpec.upto carryLoadsSpecSpec)

/-- 'fastilaw22.CarryCounts', WHERE WHAT IT READS IS OF BULK AT MOST 1048576: true; the input reads as it did. -/
def carryCountsUptoRow : OpenClaim := { program := "ytcjpghiceebkfaa", sum := "e6eb14c81acffaa6d2da1cd897aca734e664a8198aba2d417ea807b6932e498b", func := "fasti/fastilaw22.CarryCounts", spec := "carryCounts", unfollowed := true, recurses := true, plainKeys := false, apart := false, narrowed := true }
def CarryCountsUptoSaid : Prop := carryCountsUptoRow.holds Try.pinned (OpenSpec.upto carryCountsSpec)

/-- 'fastilaw22.CarryRenamed', WHERE WHAT IT READS IS OF BULK AT MOST 1048576: true; the input reads as it did. -/
def carryRenamedUptoRow : OpenClaim := { program := "ytcjpghiceebkfaa", sum := "e6eb14c81acffaa6d2da1cd897aca734e664a8198aba2d417ea807b6932e498b", func := "fasti/fastilaw22.CarryRenamed", spec := "carryRenamed", unfollowed := true, recurses := true, plainKeys := false, apart := false, narrowed := true }
def CarryRenamedUptoSaid : Prop := carryRenamedUptoRow.holds Try.pinned (OpenSpec.upto carryRenamedSpec)

/-- 'fastilaw22.CarryTurned', WHERE WHAT IT READS IS OF BULK AT MOST 1048576: true; the input reads as it did. -/
def carryTurnedUptoRow : OpenClaim := { program := "ytcjpghiceebkfaa", sum := "e6eb14c81acffaa6d2da1cd897aca734e664a8198aba2d417ea807b6932e498b", func := "fasti/fastilaw22.CarryTurned", spec := "carryTurned", unfollowed := true, recurses := true, plainKeys := false, apart := false, narrowed := true }
def CarryTurnedUptoSaid : Prop := carryTurnedUptoRow.holds Try.pinned (OpenSpec.upto carryTurnedSpec)

/-- 'fastilaw22.CarryLeast', WHERE WHAT IT READS IS OF BULK AT MOST 1048576: true; the input reads as it did. -/
def carryLeastUptoRow : OpenClaim := { program := "ytcjpghiceebkfaa", sum := "e6eb14c81acffaa6d2da1cd897aca734e664a8198aba2d417ea807b6932e498b", func := "fasti/fastilaw22.CarryLeast", spec := "carryLeast", unfollowed := true, recurses := true, plainKeys := false, apart := false, narrowed := true }
def CarryLeastUptoSaid : Prop := carryLeastUptoRow.holds Try.pinned (OpenSpec.upto carryLeastSpec)

end Rows
end Go.Proofs.Ytcjpghiceebkfaa
