/-
  No cell of these rows narrows 'for every input' (looked for: loops, veiled, ifaces, maps, wideKeys, modest, calm, conditions, laid).
  DERIVED. THE GIVEN ROWS OF THIS SEAT. 6 by the template 'for every input the law returns true; each argument reads behind the call as it read before'; 0 by the template 'total and deterministic' (their statements: YthddaojdlfifeaaTotals.lean).
  GIVEN WITH THE SEED: the statements are not yours to turn. If you find one false, say at which input.
  Laid BY PROGRAM, IN A SANDBOX (cutbox-rows.mjs): the forced cells as the released guide's own fill.sh prints them over the translation 41267b5e7ca8e3ff… (all of the seat's roots in one cut). By AI agents, Wed Nov 11 2026. No macro, syntax, notation, axiom, sorry.
-/
import Derived.Test.YthddaojdlfifeaaChecked
import GoSem.Claim
import GoSem.ClaimJoined
import GoSem.ClaimMapViews
import Derived.JoinedTies
import Derived.KernelRfl
namespace Go.Proofs.Ythddaojdlfifeaa
/- THE CELL 'sum', in the pinned program and in every row, IS THE sha256 OF THE DUMP (.gsa) THAT YthddaojdlfifeaaProg.lean LOADS. Nothing in Lean hashes anything: it is a label: what it is worth is what the hold of that sum in a sandbox is worth. -/
noncomputable def Try.pinned : Pinned := { name := "ythddaojdlfifeaa", sum := "41267b5e7ca8e3ff1748ca0c847c6dbcf0d2dcf47e495ca4295fabd9bac36b7e", checked := Try.checked }
namespace Rows
def none {H : Type} : Left H := { results := [], args := [] }

/-- 'fastilaw20.RobinSpec': WHATEVER THE INPUT: true; the input reads as it did. -/
def robinSpecSpec : ChangeSpec := { name := "robinSpec", fn := fun _ => fun
  | [d1, d2] => { results := [.lit (.bool true)], args := [d1, d2] }
  | _ => none }
def robinSpecRow : OpenClaim := { program := "ythddaojdlfifeaa", sum := "41267b5e7ca8e3ff1748ca0c847c6dbcf0d2dcf47e495ca4295fabd9bac36b7e", func := "fasti/fastilaw20.RobinSpec", spec := "robinSpec", unfollowed := true, recurses := true, plainKeys := false, apart := false }
def RobinSpecSaid : Prop := robinSpecRow.holds Try.pinned (OpenSpec.ofChange robinSpecSpec)

/-- ITS FALSE NEIGHBOUR: 'it returns false'. Refute it at one input. -/
def robinSpecWrong : ChangeSpec := { name := "robinSpec", fn := fun _ => fun
  | [d1, d2] => { results := [.lit (.bool false)], args := [d1, d2] }
  | _ => none }
def RobinSpecWrongFalsely : Prop := robinSpecRow.holds Try.pinned (OpenSpec.ofChange robinSpecWrong)

/-- 'fastilaw20.RobinCheckSpec': WHATEVER THE INPUT: true; the input reads as it did. -/
def robinCheckSpecSpec : ChangeSpec := { name := "robinCheckSpec", fn := fun _ => fun
  | [d1, d2, d3] => { results := [.lit (.bool true)], args := [d1, d2, d3] }
  | _ => none }
def robinCheckSpecRow : OpenClaim := { program := "ythddaojdlfifeaa", sum := "41267b5e7ca8e3ff1748ca0c847c6dbcf0d2dcf47e495ca4295fabd9bac36b7e", func := "fasti/fastilaw20.RobinCheckSpec", spec := "robinCheckSpec", unfollowed := true, recurses := true, plainKeys := false, apart := false }
def RobinCheckSpecSaid : Prop := robinCheckSpecRow.holds Try.pinned (OpenSpec.ofChange robinCheckSpecSpec)

/-- ITS FALSE NEIGHBOUR: 'it returns false'. Refute it at one input. -/
def robinCheckSpecWrong : ChangeSpec := { name := "robinCheckSpec", fn := fun _ => fun
  | [d1, d2, d3] => { results := [.lit (.bool false)], args := [d1, d2, d3] }
  | _ => none }
def RobinCheckSpecWrongFalsely : Prop := robinCheckSpecRow.holds Try.pinned (OpenSpec.ofChange robinCheckSpecWrong)

/-- 'fastilaw20.RobinAll': WHATEVER THE INPUT: true; the input reads as it did. -/
def robinAllSpec : ChangeSpec := { name := "robinAll", fn := fun _ => fun
  | [d1, d2] => { results := [.lit (.bool true)], args := [d1, d2] }
  | _ => none }
def robinAllRow : OpenClaim := { program := "ythddaojdlfifeaa", sum := "41267b5e7ca8e3ff1748ca0c847c6dbcf0d2dcf47e495ca4295fabd9bac36b7e", func := "fasti/fastilaw20.RobinAll", spec := "robinAll", unfollowed := true, recurses := true, plainKeys := false, apart := false }
def RobinAllSaid : Prop := robinAllRow.holds Try.pinned (OpenSpec.ofChange robinAllSpec)

/-- ITS FALSE NEIGHBOUR: 'it returns false'. Refute it at one input. -/
def robinAllWrong : ChangeSpec := { name := "robinAll", fn := fun _ => fun
  | [d1, d2] => { results := [.lit (.bool false)], args := [d1, d2] }
  | _ => none }
def RobinAllWrongFalsely : Prop := robinAllRow.holds Try.pinned (OpenSpec.ofChange robinAllWrong)

/-- 'fastilaw20.RobinBalance': WHATEVER THE INPUT: true; the input reads as it did. -/
def robinBalanceSpec : ChangeSpec := { name := "robinBalance", fn := fun _ => fun
  | [d1, d2] => { results := [.lit (.bool true)], args := [d1, d2] }
  | _ => none }
def robinBalanceRow : OpenClaim := { program := "ythddaojdlfifeaa", sum := "41267b5e7ca8e3ff1748ca0c847c6dbcf0d2dcf47e495ca4295fabd9bac36b7e", func := "fasti/fastilaw20.RobinBalance", spec := "robinBalance", unfollowed := true, recurses := true, plainKeys := false, apart := false }
def RobinBalanceSaid : Prop := robinBalanceRow.holds Try.pinned (OpenSpec.ofChange robinBalanceSpec)

/-- ITS FALSE NEIGHBOUR: 'it returns false'. Refute it at one input. -/
def robinBalanceWrong : ChangeSpec := { name := "robinBalance", fn := fun _ => fun
  | [d1, d2] => { results := [.lit (.bool false)], args := [d1, d2] }
  | _ => none }
def RobinBalanceWrongFalsely : Prop := robinBalanceRow.holds Try.pinned (OpenSpec.ofChange robinBalanceWrong)

/-- 'fastilaw20.RobinRenamed': WHATEVER THE INPUT: true; the input reads as it did. -/
def robinRenamedSpec : ChangeSpec := { name := "robinRenamed", fn := fun _ => fun
  | [d1, d2, d3, d4] => { results := [.lit (.bool true)], args := [d1, d2, d3, d4] }
  | _ => none }
def robinRenamedRow : OpenClaim := { program := "ythddaojdlfifeaa", sum := "41267b5e7ca8e3ff1748ca0c847c6dbcf0d2dcf47e495ca4295fabd9bac36b7e", func := "fasti/fastilaw20.RobinRenamed", spec := "robinRenamed", unfollowed := true, recurses := true, plainKeys := false, apart := false }
def RobinRenamedSaid : Prop := robinRenamedRow.holds Try.pinned (OpenSpec.ofChange robinRenamedSpec)

/-- ITS FALSE NEIGHBOUR: 'it returns false'. Refute it at one input. -/
def robinRenamedWrong : ChangeSpec := { name := "robinRenamed", fn := fun _ => fun
  | [d1, d2, d3, d4] => { results := [.lit (.bool false)], args := [d1, d2, d3, d4] }
  | _ => none }
def RobinRenamedWrongFalsely : Prop := robinRenamedRow.holds Try.pinned (OpenSpec.ofChange robinRenamedWrong)

/-- 'fastilaw20.RobinRefused': WHATEVER THE INPUT: true; the input reads as it did. -/
def robinRefusedSpec : ChangeSpec := { name := "robinRefused", fn := fun _ => fun
  | [d1, d2, d3, d4] => { results := [.lit (.bool true)], args := [d1, d2, d3, d4] }
  | _ => none }
def robinRefusedRow : OpenClaim := { program := "ythddaojdlfifeaa", sum := "41267b5e7ca8e3ff1748ca0c847c6dbcf0d2dcf47e495ca4295fabd9bac36b7e", func := "fasti/fastilaw20.RobinRefused", spec := "robinRefused", unfollowed := true, recurses := true, plainKeys := false, apart := false }
def RobinRefusedSaid : Prop := robinRefusedRow.holds Try.pinned (OpenSpec.ofChange robinRefusedSpec)

/-- ITS FALSE NEIGHBOUR: 'it returns false'. Refute it at one input. -/
def robinRefusedWrong : ChangeSpec := { name := "robinRefused", fn := fun _ => fun
  | [d1, d2, d3, d4] => { results := [.lit (.bool false)], args := [d1, d2, d3, d4] }
  | _ => none }
def RobinRefusedWrongFalsely : Prop := robinRefusedRow.holds Try.pinned (OpenSpec.ofChange robinRefusedWrong)

/- THE SECOND FORM. 'bulk': how many values and letters a reading holds, each counted each time it is reached (what is shared counts as often as it is met; a slice's spare places count too). A statement '..UptoSaid' is the law's where the arguments, and the package variables that the reading takes, are together of bulk at most 1048576: NARROWER than '..Said'. Prove '..Said' where nothing that the law and all that it calls make is longer than what came in: it says more and counts as full. Else prove '..UptoSaid'. A law counts once. -/
mutual
def uptoBulk {H : Type} : DataW H → Nat
  | .lit (.string bytes) => bytes.length + 1
  | .lit _ => 1
  | .nil => 1
  | .ptr d => uptoBulk d + 1
  | .slice elems spare => uptoBulkAll elems + uptoBulkAll spare + 1
  | .agg parts => uptoBulkAll parts + 1
  | .iface _ d => uptoBulk d + 1
  | .map entries => uptoBulkEntries entries + 1
  | .held _ => 1
def uptoBulkAll {H : Type} : List (DataW H) → Nat
  | [] => 0
  | d :: r => uptoBulk d + uptoBulkAll r
def uptoBulkEntries {H : Type} : List (Lit × DataW H) → Nat
  | [] => 0
  | x :: r => uptoBulkEntry x + uptoBulkEntries r
def uptoBulkEntry {H : Type} : Lit × DataW H → Nat
  | (.string bytes, d) => bytes.length + uptoBulk d + 1
  | (_, d) => uptoBulk d + 1
 end
def uptoSmall : (H : Type) → List (DataW H) → Bool := fun _ ds => decide (uptoBulkAll ds ≤ 1048576)
def OpenSpec.upto (s : _root_.Go.ChangeSpec) : _root_.Go.OpenSpec := { _root_.Go.OpenSpec.ofChange s with cond := some uptoSmall }

/-- 'fastilaw20.RobinSpec', WHERE WHAT IT READS IS OF BULK AT MOST 1048576: true; the input reads as it did. -/
def robinSpecUptoRow : OpenClaim := { program := "ythddaojdlfifeaa", sum := "41267b5e7ca8e3ff1748ca0c847c6dbcf0d2dcf47e495ca4295fabd9bac36b7e", func := "fasti/fastilaw20.RobinSpec", spec := "robinSpec", unfollowed := true, recurses := true, plainKeys := false, apart := false, narrowed := true }
def RobinSpecUptoSaid : Prop := robinSpecUptoRow.holds Try.pinned (OpenSpec.upto robinSpecSpec)

/-- 'fastilaw20.RobinCheckSpec', WHERE WHAT IT READS IS OF BULK AT MOST 1048576: true; the input reads as it did. -/
def robinCheckSpecUptoRow : OpenClaim := { program := "ythddaojdlfifeaa", sum := "41267b5e7ca8e3ff1748ca0c847c6dbcf0d2dcf47e495ca4295fabd9bac36b7e", func := "fasti/fastilaw20.RobinCheckSpec", spec := "robinCheckSpec", unfollowed := true, recurses := true, plainKeys := false, apart := false, narrowed := true }
def RobinCheckSpecUptoSaid : Prop := robinCheckSpecUptoRow.holds Try.pinned (OpenSpec.upto robinCheckSpecSpec)

/-- 'fastilaw20.RobinAll', WHERE WHAT IT READS IS OF BULK AT MOST 1048576: true; the input reads as it did. -/
def robinAllUptoRow : OpenClaim := { program := "ythddaojdlfifeaa", sum := "41267b5e7ca8e3ff1748ca0c847c6dbcf0d2dcf47e495ca4295fabd9bac36b7e", func := "fasti/fastilaw20.RobinAll", spec := "robinAll", unfollowed := true, recurses := true, plainKeys := false, apart := false, narrowed := true }
def RobinAllUptoSaid : Prop := robinAllUptoRow.holds Try.pinned (OpenSpec.upto robinAllSpec)

/-- 'fastilaw20.RobinBalance', WHERE WHAT IT READS IS OF BULK AT MOST 1048576: true; the input reads as it did. -/
def robinBalanceUptoRow : OpenClaim := { program := "ythddaojdlfifeaa", sum := "41267b5e7ca8e3ff1748ca0c847c6dbcf0d2dcf47e495ca4295fabd9bac36b7e", func := "fasti/fastilaw20.RobinBalance", spec := "robinBalance", unfollowed := true, recurses := true, plainKeys := false, apart := false, narrowed := true }
def RobinBalanceUptoSaid : Prop := robinBalanceUptoRow.holds Try.pinned (OpenSpec.upto robinBalanceSpec)

/-- 'fastilaw20.RobinRenamed', WHERE WHAT IT READS IS OF BULK AT MOST 1048576: true; the input reads as it did. -/
def robinRenamedUptoRow : OpenClaim := { program := "ythddaojdlfifeaa", sum := "41267b5e7ca8e3ff1748ca0c847c6dbcf0d2dcf47e495ca4295fabd9bac36b7e", func := "fasti/fastilaw20.RobinRenamed", spec := "robinRenamed", unfollowed := true, recurses := true, plainKeys := false, apart := false, narrowed := true }
def RobinRenamedUptoSaid : Prop := robinRenamedUptoRow.holds Try.pinned (OpenSpec.upto robinRenamedSpec)

/-- 'fastilaw20.RobinRefused', WHERE WHAT IT READS IS OF BULK AT MOST 1048576: true; the input reads as it did. -/
def robinRefusedUptoRow : OpenClaim := { program := "ythddaojdlfifeaa", sum := "41267b5e7ca8e3ff1748ca0c847c6dbcf0d2dcf47e495ca4295fabd9bac36b7e", func := "fasti/fastilaw20.RobinRefused", spec := "robinRefused", unfollowed := true, recurses := true, plainKeys := false, apart := false, narrowed := true }
def RobinRefusedUptoSaid : Prop := robinRefusedUptoRow.holds Try.pinned (OpenSpec.upto robinRefusedSpec)

end Rows
end Go.Proofs.Ythddaojdlfifeaa
