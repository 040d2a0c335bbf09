/-
  No cell of these rows narrows 'for every input' (looked for: loops, veiled, ifaces, maps, wideKeys, modest, calm, conditions, laid).
  DERIVED. THE GIVEN ROWS OF THIS SEAT. 7 by the template 'for every input the law returns true; each argument reads behind the call as it read before'; 0 by the template 'total and deterministic' (their statements: YtecgklfcblpkdaaTotals.lean).
  GIVEN WITH THE SEED: the statements are not yours to turn. If you find one false, say at which input.
  Laid BY PROGRAM, IN A SANDBOX (cutbox-rows.mjs): the forced cells as the released guide's own fill.sh prints them over the translation 533a0c74084aee8e… (all of the seat's roots in one cut). By AI agents, Wed Nov 11 2026. No macro, syntax, notation, axiom, sorry.
-/
import Derived.Test.YtecgklfcblpkdaaChecked
import GoSem.Claim
import GoSem.ClaimJoined
import GoSem.ClaimMapViews
import Derived.JoinedTies
import Derived.KernelRfl
namespace Go.Proofs.Ytecgklfcblpkdaa
/- THE CELL 'sum', in the pinned program and in every row, IS THE sha256 OF THE DUMP (.gsa) THAT YtecgklfcblpkdaaProg.lean LOADS. Nothing in Lean hashes anything: it is a label: what it is worth is what the hold of that sum in a sandbox is worth. -/
noncomputable def Try.pinned : Pinned := { name := "ytecgklfcblpkdaa", sum := "533a0c74084aee8eaa8de54b846f2118e88be4ddc137aace36ec26636d2549d3", checked := Try.checked }
namespace Rows
def none {H : Type} : Left H := { results := [], args := [] }

/-- 'fastilaw21.PatternsSpec': WHATEVER THE INPUT: true; the input reads as it did. -/
def patternsSpecSpec : ChangeSpec := { name := "patternsSpec", fn := fun _ => fun
  | [d1, d2, d3] => { results := [.lit (.bool true)], args := [d1, d2, d3] }
  | _ => none }
def patternsSpecRow : OpenClaim := { program := "ytecgklfcblpkdaa", sum := "533a0c74084aee8eaa8de54b846f2118e88be4ddc137aace36ec26636d2549d3", func := "fasti/fastilaw21.PatternsSpec", spec := "patternsSpec", unfollowed := true, recurses := true, plainKeys := false, apart := false }
def PatternsSpecSaid : Prop := patternsSpecRow.holds Try.pinned (OpenSpec.ofChange patternsSpecSpec)

/-- ITS FALSE NEIGHBOUR: 'it returns false'. Refute it at one input. -/
def patternsSpecWrong : ChangeSpec := { name := "patternsSpec", fn := fun _ => fun
  | [d1, d2, d3] => { results := [.lit (.bool false)], args := [d1, d2, d3] }
  | _ => none }
def PatternsSpecWrongFalsely : Prop := patternsSpecRow.holds Try.pinned (OpenSpec.ofChange patternsSpecWrong)

/-- 'fastilaw21.PatternsLeastSpec': WHATEVER THE INPUT: true; the input reads as it did. -/
def patternsLeastSpecSpec : ChangeSpec := { name := "patternsLeastSpec", fn := fun _ => fun
  | [d1, d2, d3] => { results := [.lit (.bool true)], args := [d1, d2, d3] }
  | _ => none }
def patternsLeastSpecRow : OpenClaim := { program := "ytecgklfcblpkdaa", sum := "533a0c74084aee8eaa8de54b846f2118e88be4ddc137aace36ec26636d2549d3", func := "fasti/fastilaw21.PatternsLeastSpec", spec := "patternsLeastSpec", unfollowed := true, recurses := true, plainKeys := false, apart := false }
def PatternsLeastSpecSaid : Prop := patternsLeastSpecRow.holds Try.pinned (OpenSpec.ofChange patternsLeastSpecSpec)

/-- ITS FALSE NEIGHBOUR: 'it returns false'. Refute it at one input. -/
def patternsLeastSpecWrong : ChangeSpec := { name := "patternsLeastSpec", fn := fun _ => fun
  | [d1, d2, d3] => { results := [.lit (.bool false)], args := [d1, d2, d3] }
  | _ => none }
def PatternsLeastSpecWrongFalsely : Prop := patternsLeastSpecRow.holds Try.pinned (OpenSpec.ofChange patternsLeastSpecWrong)

/-- 'fastilaw21.PatternsTurn': WHATEVER THE INPUT: true; the input reads as it did. -/
def patternsTurnSpec : ChangeSpec := { name := "patternsTurn", fn := fun _ => fun
  | [d] => { results := [.lit (.bool true)], args := [d] }
  | _ => none }
def patternsTurnRow : OpenClaim := { program := "ytecgklfcblpkdaa", sum := "533a0c74084aee8eaa8de54b846f2118e88be4ddc137aace36ec26636d2549d3", func := "fasti/fastilaw21.PatternsTurn", spec := "patternsTurn", unfollowed := true, recurses := true, plainKeys := false, apart := false }
def PatternsTurnSaid : Prop := patternsTurnRow.holds Try.pinned (OpenSpec.ofChange patternsTurnSpec)

/-- ITS FALSE NEIGHBOUR: 'it returns false'. Refute it at one input. -/
def patternsTurnWrong : ChangeSpec := { name := "patternsTurn", fn := fun _ => fun
  | [d] => { results := [.lit (.bool false)], args := [d] }
  | _ => none }
def PatternsTurnWrongFalsely : Prop := patternsTurnRow.holds Try.pinned (OpenSpec.ofChange patternsTurnWrong)

/-- 'fastilaw21.PatternsRounds': WHATEVER THE INPUT: true; the input reads as it did. -/
def patternsRoundsSpec : ChangeSpec := { name := "patternsRounds", fn := fun _ => fun
  | [d1, d2, d3] => { results := [.lit (.bool true)], args := [d1, d2, d3] }
  | _ => none }
def patternsRoundsRow : OpenClaim := { program := "ytecgklfcblpkdaa", sum := "533a0c74084aee8eaa8de54b846f2118e88be4ddc137aace36ec26636d2549d3", func := "fasti/fastilaw21.PatternsRounds", spec := "patternsRounds", unfollowed := true, recurses := true, plainKeys := false, apart := false }
def PatternsRoundsSaid : Prop := patternsRoundsRow.holds Try.pinned (OpenSpec.ofChange patternsRoundsSpec)

/-- ITS FALSE NEIGHBOUR: 'it returns false'. Refute it at one input. -/
def patternsRoundsWrong : ChangeSpec := { name := "patternsRounds", fn := fun _ => fun
  | [d1, d2, d3] => { results := [.lit (.bool false)], args := [d1, d2, d3] }
  | _ => none }
def PatternsRoundsWrongFalsely : Prop := patternsRoundsRow.holds Try.pinned (OpenSpec.ofChange patternsRoundsWrong)

/-- 'fastilaw21.PatternsShort': WHATEVER THE INPUT: true; the input reads as it did. -/
def patternsShortSpec : ChangeSpec := { name := "patternsShort", fn := fun _ => fun
  | [d1, d2, d3] => { results := [.lit (.bool true)], args := [d1, d2, d3] }
  | _ => none }
def patternsShortRow : OpenClaim := { program := "ytecgklfcblpkdaa", sum := "533a0c74084aee8eaa8de54b846f2118e88be4ddc137aace36ec26636d2549d3", func := "fasti/fastilaw21.PatternsShort", spec := "patternsShort", unfollowed := true, recurses := true, plainKeys := false, apart := false }
def PatternsShortSaid : Prop := patternsShortRow.holds Try.pinned (OpenSpec.ofChange patternsShortSpec)

/-- ITS FALSE NEIGHBOUR: 'it returns false'. Refute it at one input. -/
def patternsShortWrong : ChangeSpec := { name := "patternsShort", fn := fun _ => fun
  | [d1, d2, d3] => { results := [.lit (.bool false)], args := [d1, d2, d3] }
  | _ => none }
def PatternsShortWrongFalsely : Prop := patternsShortRow.holds Try.pinned (OpenSpec.ofChange patternsShortWrong)

/-- 'fastilaw21.PatternsCut': WHATEVER THE INPUT: true; the input reads as it did. -/
def patternsCutSpec : ChangeSpec := { name := "patternsCut", fn := fun _ => fun
  | [d1, d2] => { results := [.lit (.bool true)], args := [d1, d2] }
  | _ => none }
def patternsCutRow : OpenClaim := { program := "ytecgklfcblpkdaa", sum := "533a0c74084aee8eaa8de54b846f2118e88be4ddc137aace36ec26636d2549d3", func := "fasti/fastilaw21.PatternsCut", spec := "patternsCut", unfollowed := true, recurses := true, plainKeys := false, apart := false }
def PatternsCutSaid : Prop := patternsCutRow.holds Try.pinned (OpenSpec.ofChange patternsCutSpec)

/-- ITS FALSE NEIGHBOUR: 'it returns false'. Refute it at one input. -/
def patternsCutWrong : ChangeSpec := { name := "patternsCut", fn := fun _ => fun
  | [d1, d2] => { results := [.lit (.bool false)], args := [d1, d2] }
  | _ => none }
def PatternsCutWrongFalsely : Prop := patternsCutRow.holds Try.pinned (OpenSpec.ofChange patternsCutWrong)

/-- 'fastilaw21.PatternsRobin': WHATEVER THE INPUT: true; the input reads as it did. -/
def patternsRobinSpec : ChangeSpec := { name := "patternsRobin", fn := fun _ => fun
  | [d] => { results := [.lit (.bool true)], args := [d] }
  | _ => none }
def patternsRobinRow : OpenClaim := { program := "ytecgklfcblpkdaa", sum := "533a0c74084aee8eaa8de54b846f2118e88be4ddc137aace36ec26636d2549d3", func := "fasti/fastilaw21.PatternsRobin", spec := "patternsRobin", unfollowed := true, recurses := true, plainKeys := false, apart := false }
def PatternsRobinSaid : Prop := patternsRobinRow.holds Try.pinned (OpenSpec.ofChange patternsRobinSpec)

/-- ITS FALSE NEIGHBOUR: 'it returns false'. Refute it at one input. -/
def patternsRobinWrong : ChangeSpec := { name := "patternsRobin", fn := fun _ => fun
  | [d] => { results := [.lit (.bool false)], args := [d] }
  | _ => none }
def PatternsRobinWrongFalsely : Prop := patternsRobinRow.holds Try.pinned (OpenSpec.ofChange patternsRobinWrong)

/- THE SECOND FORM. 'bulk': how many values and letters a reading holds, each counted each time it is reached (what is shared counts as often as it is met; a slice's spare places count too). A statement '..UptoSaid' is the law's where the arguments, and the package variables that the reading takes, are together of bulk at most 1048576: NARROWER than '..Said'. Prove '..Said' where nothing that the law and all that it calls make is longer than what came in: it says more and counts as full. Else prove '..UptoSaid'. A law counts once. -/
mutual
def uptoBulk {H : Type} : DataW H → Nat
  | .lit (.string bytes) => bytes.length + 1
  | .lit _ => 1
  | .nil => 1
  | .ptr d => uptoBulk d + 1
  | .slice elems spare => uptoBulkAll elems + uptoBulkAll spare + 1
  | .agg parts => uptoBulkAll parts + 1
  | .iface _ d => uptoBulk d + 1
  | .map entries => uptoBulkEntries entries + 1
  | .held _ => 1
def uptoBulkAll {H : Type} : List (DataW H) → Nat
  | [] => 0
  | d :: r => uptoBulk d + uptoBulkAll r
def uptoBulkEntries {H : Type} : List (Lit × DataW H) → Nat
  | [] => 0
  | x :: r => uptoBulkEntry x + uptoBulkEntries r
def uptoBulkEntry {H : Type} : Lit × DataW H → Nat
  | (.string bytes, d) => bytes.length + uptoBulk d + 1
  | (_, d) => uptoBulk d + 1
 end
def uptoSmall : (H : Type) → List (DataW H) → Bool := fun _ ds => decide (uptoBulkAll ds ≤ 1048576)
def OpenSpec.upto (s : _root_.Go.ChangeSpec) : _root_.Go.OpenSpec := { _root_.Go.OpenSpec.ofChange s with cond := some uptoSmall }

/-- 'fastilaw21.PatternsSpec', WHERE WHAT IT READS IS OF BULK AT MOST 1048576: true; the input reads as it did. -/
def patternsSpecUptoRow : OpenClaim := { program := "ytecgklfcblpkdaa", sum := "533a0c74084aee8eaa8de54b846f2118e88be4ddc137aace36ec26636d2549d3", func := "fasti/fastilaw21.PatternsSpec", spec := "patternsSpec", unfollowed := true, recurses := true, plainKeys := false, apart := false, narrowed := true }
def PatternsSpecUptoSaid : Prop := patternsSpecUptoRow.holds Try.pinned (OpenSpec.upto patternsSpecSpec)

/-- 'fastilaw21.PatternsLeastSpec', WHERE WHAT IT READS IS OF BULK AT MOST 1048576: true; the input reads as it did. -/
def patternsLeastSpecUptoRow : OpenClaim := { program := "ytecgklfcblpkdaa", sum := "533a0c74084aee8eaa8de54b846f2118e88be4ddc137aace36ec26636d2549d3", func := "fasti/fastilaw21.PatternsLeastSpec", spec := "patternsLeastSpec", unfollowed := true, recurses := true, plainKeys := false, apart := false, narrowed := true }
def PatternsLeastSpecUptoSaid : Prop := patternsLeastSpecUptoRow.holds Try.pinned (OpenSpec.upto patternsLeastSpecSpec)

/-- 'fastilaw21.PatternsTurn', WHERE WHAT IT READS IS OF BULK AT MOST 1048576: true; the input reads as it did. -/
def patternsTurnUptoRow : OpenClaim := { program := "ytecgklfcblpkdaa", sum := "533a0c74084aee8eaa8de54b846f2118e88be4ddc137aace36ec26636d2549d3", func := "fasti/fastilaw21.PatternsTurn", spec := "patternsTurn", unfollowed := true, recurses := true, plainKeys := false, apart := false, narrowed := true }
def PatternsTurnUptoSaid : Prop := patternsTurnUptoRow.holds Try.pinned (OpenSpec.upto patternsTurnSpec)

/-- 'fastilaw21.PatternsRounds', WHERE WHAT IT READS IS OF BULK AT MOST 1048576: true; the input reads as it did. -/
def patternsRoundsUptoRow : OpenClaim := { program := "ytecgklfcblpkdaa", sum := "533a0c74084aee8eaa8de54b846f2118e88be4ddc137aace36ec26636d2549d3", func := "fasti/fastilaw21.PatternsRounds", spec := "patternsRounds", unfollowed := true, recurses := true, plainKeys := false, apart := false, narrowed := true }
def PatternsRoundsUptoSaid : Prop := patternsRoundsUptoRow.holds Try.pinned (OpenSpec.upto patternsRoundsSpec)

/-- 'fastilaw21.PatternsShort', WHERE WHAT IT READS IS OF BULK AT MOST 1048576: true; the input reads as it did. -/
def patternsShortUptoRow : OpenClaim := { program := "ytecgklfcblpkdaa", sum := "533a0c74084aee8eaa8de54b846f2118e88be4ddc137aace36ec26636d2549d3", func := "fasti/fastilaw21.PatternsShort", spec := "patternsShort", unfollowed := true, recurses := true, plainKeys := false, apart := false, narrowed := true }
def PatternsShortUptoSaid : Prop := patternsShortUptoRow.holds Try.pinned (OpenSpec.upto patternsShortSpec)

/-- 'fastilaw21.PatternsCut', WHERE WHAT IT READS IS OF BULK AT MOST 1048576: true; the input reads as it did. -/
def patternsCutUptoRow : OpenClaim := { program := "ytecgklfcblpkdaa", sum := "533a0c74084aee8eaa8de54b846f2118e88be4ddc137aace36ec26636d2549d3", func := "fasti/fastilaw21.PatternsCut", spec := "patternsCut", unfollowed := true, recurses := true, plainKeys := false, apart := false, narrowed := true }
def PatternsCutUptoSaid : Prop := patternsCutUptoRow.holds Try.pinned (OpenSpec.upto patternsCutSpec)

/-- 'fastilaw21.PatternsRobin', WHERE WHAT IT READS IS OF BULK AT MOST 1048576: true; the input reads as it did. -/
def patternsRobinUptoRow : OpenClaim := { program := "ytecgklfcblpkdaa", sum := "533a0c74084aee8eaa8de54b846f2118e88be4ddc137aace36ec26636d2549d3", func := "fasti/fastilaw21.PatternsRobin", spec := "patternsRobin", unfollowed := true, recurses := true, plainKeys := false, apart := false, narrowed := true }
def PatternsRobinUptoSaid : Prop := patternsRobinUptoRow.holds Try.pinned (OpenSpec.upto patternsRobinSpec)

end Rows
end Go.Proofs.Ytecgklfcblpkdaa
