/-
  No cell of these rows narrows 'for every input' (looked for: loops, veiled, ifaces, maps, wideKeys, modest, calm, conditions, laid).
  DERIVED. THE GIVEN ROWS OF THIS SEAT. 8 by the template 'for every input the law returns true; each argument reads behind the call as it read before'; 0 by the template 'total and deterministic' (their statements: YtppoepenmpcbnaaTotals.lean).
  GIVEN WITH THE SEED: the statements are not yours to turn. If you find one false, say at which input.
  Laid BY PROGRAM, IN A SANDBOX (cutbox-rows.mjs): the forced cells as the released guide's own fill.sh prints them over the translation fe64aa4043a9cfb1… (all of the seat's roots in one cut). By AI agents, Wed Nov 11 2026. No macro, syntax, notation, axiom, sorry.
-/
import Derived.Test.YtppoepenmpcbnaaChecked
import GoSem.Claim
import GoSem.ClaimJoined
import GoSem.ClaimMapViews
import Derived.JoinedTies
import Derived.KernelRfl
namespace Go.Proofs.Ytppoepenmpcbnaa
/- THE CELL 'sum', in the pinned program and in every row, IS THE sha256 OF THE DUMP (.gsa) THAT YtppoepenmpcbnaaProg.lean LOADS. Nothing in Lean hashes anything: it is a label: what it is worth is what the hold of that sum in a sandbox is worth. -/
noncomputable def Try.pinned : Pinned := { name := "ytppoepenmpcbnaa", sum := "fe64aa4043a9cfb14eda42599045d2141a0b7808c9ffcffa26a4cef9f5ab9d43", checked := Try.checked }
namespace Rows
def none {H : Type} : Left H := { results := [], args := [] }

/-- 'fanlightlaw01.FloatSteps': WHATEVER THE INPUT: true; the input reads as it did. -/
def floatStepsSpec : ChangeSpec := { name := "floatSteps", fn := fun _ => fun
  | [d] => { results := [.lit (.bool true)], args := [d] }
  | _ => none }
def floatStepsRow : OpenClaim := { program := "ytppoepenmpcbnaa", sum := "fe64aa4043a9cfb14eda42599045d2141a0b7808c9ffcffa26a4cef9f5ab9d43", func := "fanlight/fanlightlaw01.FloatSteps", spec := "floatSteps", inPlace := ["math.Float64bits", "math.Float64frombits", "math.archFloor", "math.archTrunc"], unfollowed := true, recurses := true, apart := false }
def FloatStepsSaid : Prop := floatStepsRow.holds Try.pinned (OpenSpec.ofChange floatStepsSpec)

/-- ITS FALSE NEIGHBOUR: 'it returns false'. Refute it at one input. -/
def floatStepsWrong : ChangeSpec := { name := "floatSteps", fn := fun _ => fun
  | [d] => { results := [.lit (.bool false)], args := [d] }
  | _ => none }
def FloatStepsWrongFalsely : Prop := floatStepsRow.holds Try.pinned (OpenSpec.ofChange floatStepsWrong)

/-- 'fanlightlaw01.FloatOrders': WHATEVER THE INPUT: true; the input reads as it did. -/
def floatOrdersSpec : ChangeSpec := { name := "floatOrders", fn := fun _ => fun
  | [d1, d2, d3] => { results := [.lit (.bool true)], args := [d1, d2, d3] }
  | _ => none }
def floatOrdersRow : OpenClaim := { program := "ytppoepenmpcbnaa", sum := "fe64aa4043a9cfb14eda42599045d2141a0b7808c9ffcffa26a4cef9f5ab9d43", func := "fanlight/fanlightlaw01.FloatOrders", spec := "floatOrders", inPlace := ["math.Float64bits", "math.Float64frombits", "math.archFloor", "math.archTrunc"], unfollowed := true, recurses := true, apart := false }
def FloatOrdersSaid : Prop := floatOrdersRow.holds Try.pinned (OpenSpec.ofChange floatOrdersSpec)

/-- ITS FALSE NEIGHBOUR: 'it returns false'. Refute it at one input. -/
def floatOrdersWrong : ChangeSpec := { name := "floatOrders", fn := fun _ => fun
  | [d1, d2, d3] => { results := [.lit (.bool false)], args := [d1, d2, d3] }
  | _ => none }
def FloatOrdersWrongFalsely : Prop := floatOrdersRow.holds Try.pinned (OpenSpec.ofChange floatOrdersWrong)

/-- 'fanlightlaw01.FloatReckons': WHATEVER THE INPUT: true; the input reads as it did. -/
def floatReckonsSpec : ChangeSpec := { name := "floatReckons", fn := fun _ => fun
  | [d1, d2] => { results := [.lit (.bool true)], args := [d1, d2] }
  | _ => none }
def floatReckonsRow : OpenClaim := { program := "ytppoepenmpcbnaa", sum := "fe64aa4043a9cfb14eda42599045d2141a0b7808c9ffcffa26a4cef9f5ab9d43", func := "fanlight/fanlightlaw01.FloatReckons", spec := "floatReckons", inPlace := ["math.Float64frombits", "math.Float64bits", "math.archFloor", "math.archTrunc"], unfollowed := true, recurses := true, apart := false }
def FloatReckonsSaid : Prop := floatReckonsRow.holds Try.pinned (OpenSpec.ofChange floatReckonsSpec)

/-- ITS FALSE NEIGHBOUR: 'it returns false'. Refute it at one input. -/
def floatReckonsWrong : ChangeSpec := { name := "floatReckons", fn := fun _ => fun
  | [d1, d2] => { results := [.lit (.bool false)], args := [d1, d2] }
  | _ => none }
def FloatReckonsWrongFalsely : Prop := floatReckonsRow.holds Try.pinned (OpenSpec.ofChange floatReckonsWrong)

/-- 'fanlightlaw01.FloatTurns': WHATEVER THE INPUT: true; the input reads as it did. -/
def floatTurnsSpec : ChangeSpec := { name := "floatTurns", fn := fun _ => fun
  | [d1, d2] => { results := [.lit (.bool true)], args := [d1, d2] }
  | _ => none }
def floatTurnsRow : OpenClaim := { program := "ytppoepenmpcbnaa", sum := "fe64aa4043a9cfb14eda42599045d2141a0b7808c9ffcffa26a4cef9f5ab9d43", func := "fanlight/fanlightlaw01.FloatTurns", spec := "floatTurns", inPlace := ["math.Float64bits", "math.Float64frombits", "math.archFloor", "math.archTrunc"], unfollowed := true, recurses := true, apart := false }
def FloatTurnsSaid : Prop := floatTurnsRow.holds Try.pinned (OpenSpec.ofChange floatTurnsSpec)

/-- ITS FALSE NEIGHBOUR: 'it returns false'. Refute it at one input. -/
def floatTurnsWrong : ChangeSpec := { name := "floatTurns", fn := fun _ => fun
  | [d1, d2] => { results := [.lit (.bool false)], args := [d1, d2] }
  | _ => none }
def FloatTurnsWrongFalsely : Prop := floatTurnsRow.holds Try.pinned (OpenSpec.ofChange floatTurnsWrong)

/-- 'fanlightlaw01.FloatOne': WHATEVER THE INPUT: true; the input reads as it did. -/
def floatOneSpec : ChangeSpec := { name := "floatOne", fn := fun _ => fun
  | [d1, d2] => { results := [.lit (.bool true)], args := [d1, d2] }
  | _ => none }
def floatOneRow : OpenClaim := { program := "ytppoepenmpcbnaa", sum := "fe64aa4043a9cfb14eda42599045d2141a0b7808c9ffcffa26a4cef9f5ab9d43", func := "fanlight/fanlightlaw01.FloatOne", spec := "floatOne", inPlace := ["math.Float64bits", "math.Float64frombits", "math.archFloor", "math.archTrunc"], unfollowed := true, recurses := true, apart := false }
def FloatOneSaid : Prop := floatOneRow.holds Try.pinned (OpenSpec.ofChange floatOneSpec)

/-- ITS FALSE NEIGHBOUR: 'it returns false'. Refute it at one input. -/
def floatOneWrong : ChangeSpec := { name := "floatOne", fn := fun _ => fun
  | [d1, d2] => { results := [.lit (.bool false)], args := [d1, d2] }
  | _ => none }
def FloatOneWrongFalsely : Prop := floatOneRow.holds Try.pinned (OpenSpec.ofChange floatOneWrong)

/-- 'fanlightlaw01.FloatFloors': WHATEVER THE INPUT: true; the input reads as it did. -/
def floatFloorsSpec : ChangeSpec := { name := "floatFloors", fn := fun _ => fun
  | [d] => { results := [.lit (.bool true)], args := [d] }
  | _ => none }
def floatFloorsRow : OpenClaim := { program := "ytppoepenmpcbnaa", sum := "fe64aa4043a9cfb14eda42599045d2141a0b7808c9ffcffa26a4cef9f5ab9d43", func := "fanlight/fanlightlaw01.FloatFloors", spec := "floatFloors", inPlace := ["math.Float64bits", "math.Float64frombits", "math.archFloor", "math.archTrunc"], unfollowed := true, recurses := true, apart := false }
def FloatFloorsSaid : Prop := floatFloorsRow.holds Try.pinned (OpenSpec.ofChange floatFloorsSpec)

/-- ITS FALSE NEIGHBOUR: 'it returns false'. Refute it at one input. -/
def floatFloorsWrong : ChangeSpec := { name := "floatFloors", fn := fun _ => fun
  | [d] => { results := [.lit (.bool false)], args := [d] }
  | _ => none }
def FloatFloorsWrongFalsely : Prop := floatFloorsRow.holds Try.pinned (OpenSpec.ofChange floatFloorsWrong)

/-- 'fanlightlaw01.FloatBack': WHATEVER THE INPUT: true; the input reads as it did. -/
def floatBackSpec : ChangeSpec := { name := "floatBack", fn := fun _ => fun
  | [d] => { results := [.lit (.bool true)], args := [d] }
  | _ => none }
def floatBackRow : OpenClaim := { program := "ytppoepenmpcbnaa", sum := "fe64aa4043a9cfb14eda42599045d2141a0b7808c9ffcffa26a4cef9f5ab9d43", func := "fanlight/fanlightlaw01.FloatBack", spec := "floatBack", inPlace := ["math.Float64bits", "math.Float64frombits", "math.archFloor", "math.archTrunc"], unfollowed := true, recurses := true, apart := false }
def FloatBackSaid : Prop := floatBackRow.holds Try.pinned (OpenSpec.ofChange floatBackSpec)

/-- ITS FALSE NEIGHBOUR: 'it returns false'. Refute it at one input. -/
def floatBackWrong : ChangeSpec := { name := "floatBack", fn := fun _ => fun
  | [d] => { results := [.lit (.bool false)], args := [d] }
  | _ => none }
def FloatBackWrongFalsely : Prop := floatBackRow.holds Try.pinned (OpenSpec.ofChange floatBackWrong)

/-- 'fanlightlaw01.FloatTells': WHATEVER THE INPUT: true; the input reads as it did. -/
def floatTellsSpec : ChangeSpec := { name := "floatTells", fn := fun _ => fun
  | [d1, d2] => { results := [.lit (.bool true)], args := [d1, d2] }
  | _ => none }
def floatTellsRow : OpenClaim := { program := "ytppoepenmpcbnaa", sum := "fe64aa4043a9cfb14eda42599045d2141a0b7808c9ffcffa26a4cef9f5ab9d43", func := "fanlight/fanlightlaw01.FloatTells", spec := "floatTells", inPlace := ["math.Float64bits", "math.Float64frombits", "math.archTrunc", "math.archFloor"], unfollowed := true, recurses := true, apart := false }
def FloatTellsSaid : Prop := floatTellsRow.holds Try.pinned (OpenSpec.ofChange floatTellsSpec)

/-- ITS FALSE NEIGHBOUR: 'it returns false'. Refute it at one input. -/
def floatTellsWrong : ChangeSpec := { name := "floatTells", fn := fun _ => fun
  | [d1, d2] => { results := [.lit (.bool false)], args := [d1, d2] }
  | _ => none }
def FloatTellsWrongFalsely : Prop := floatTellsRow.holds Try.pinned (OpenSpec.ofChange floatTellsWrong)

/- THE SECOND FORM. 'bulk': how many values and letters a reading holds, each counted each time it is reached (what is shared counts as often as it is met; a slice's spare places count too). A statement '..UptoSaid' is the law's where the arguments, and the package variables that the reading takes, are together of bulk at most 1048576: NARROWER than '..Said'. Prove '..Said' where nothing that the law and all that it calls make is longer than what came in: it says more and counts as full. Else prove '..UptoSaid'. A law counts once. -/
mutual
def uptoBulk {H : Type} : DataW H → Nat
  | .lit (.string bytes) => bytes.length + 1
  | .lit _ => 1
  | .nil => 1
  | .ptr d => uptoBulk d + 1
  | .slice elems spare => uptoBulkAll elems + uptoBulkAll spare + 1
  | .agg parts => uptoBulkAll parts + 1
  | .iface _ d => uptoBulk d + 1
  | .map entries => uptoBulkEntries entries + 1
  | .held _ => 1
def uptoBulkAll {H : Type} : List (DataW H) → Nat
  | [] => 0
  | d :: r => uptoBulk d + uptoBulkAll r
def uptoBulkEntries {H : Type} : List (Lit × DataW H) → Nat
  | [] => 0
  | x :: r => uptoBulkEntry x + uptoBulkEntries r
def uptoBulkEntry {H : Type} : Lit × DataW H → Nat
  | (.string bytes, d) => bytes.length + uptoBulk d + 1
  | (_, d) => uptoBulk d + 1
 end
def uptoSmall : (H : Type) → List (DataW H) → Bool := fun _ ds => decide (uptoBulkAll ds ≤ 1048576)
def OpenSpec.upto (s : _root_.Go.ChangeSpec) : _root_.Go.OpenSpec := { _root_.Go.OpenSpec.ofChange s with cond := some uptoSmall }

/-- 'fanlightlaw01.FloatSteps', WHERE WHAT IT READS IS OF BULK AT MOST 1048576: true; the input reads as it did. -/
def floatStepsUptoRow : OpenClaim := { program := "ytppoepenmpcbnaa", sum := "fe64aa4043a9cfb14eda42599045d2141a0b7808c9ffcffa26a4cef9f5ab9d43", func := "fanlight/fanlightlaw01.FloatSteps", spec := "floatSteps", inPlace := ["math.Float64bits", "math.Float64frombits", "math.archFloor", "math.archTrunc"], unfollowed := true, recurses := true, apart := false, narrowed := true }
def FloatStepsUptoSaid : Prop := floatStepsUptoRow.holds Try.pinned (OpenSpec.upto floatStepsSpec)

/-- 'fanlightlaw01.FloatOrders', WHERE WHAT IT READS IS OF BULK AT MOST 1048576: true; the input reads as it did. -/
def floatOrdersUptoRow : OpenClaim := { program := "ytppoepenmpcbnaa", sum := "fe64aa4043a9cfb14eda42599045d2141a0b7808c9ffcffa26a4cef9f5ab9d43", func := "fanlight/fanlightlaw01.FloatOrders", spec := "floatOrders", inPlace := ["math.Float64bits", "math.Float64frombits", "math.archFloor", "math.archTrunc"], unfollowed := true, recurses := true, apart := false, narrowed := true }
def FloatOrdersUptoSaid : Prop := floatOrdersUptoRow.holds Try.pinned (OpenSpec.upto floatOrdersSpec)

/-- 'fanlightlaw01.FloatReckons', WHERE WHAT IT READS IS OF BULK AT MOST 1048576: true; the input reads as it did. -/
def floatReckonsUptoRow : OpenClaim := { program := "ytppoepenmpcbnaa", sum := "fe64aa4043a9cfb14eda42599045d2141a0b7808c9ffcffa26a4cef9f5ab9d43", func := "fanlight/fanlightlaw01.FloatReckons", spec := "floatReckons", inPlace := ["math.Float64frombits", "math.Float64bits", "math.archFloor", "math.archTrunc"], unfollowed := true, recurses := true, apart := false, narrowed := true }
def FloatReckonsUptoSaid : Prop := floatReckonsUptoRow.holds Try.pinned (OpenSpec.upto floatReckonsSpec)

/-- 'fanlightlaw01.FloatTurns', WHERE WHAT IT READS IS OF BULK AT MOST 1048576: true; the input reads as it did. -/
def floatTurnsUptoRow : OpenClaim := { program := "ytppoepenmpcbnaa", sum := "fe64aa4043a9cfb14eda42599045d2141a0b7808c9ffcffa26a4cef9f5ab9d43", func := "fanlight/fanlightlaw01.FloatTurns", spec := "floatTurns", inPlace := ["math.Float64bits", "math.Float64frombits", "math.archFloor", "math.archTrunc"], unfollowed := true, recurses := true, apart := false, narrowed := true }
def FloatTurnsUptoSaid : Prop := floatTurnsUptoRow.holds Try.pinned (OpenSpec.upto floatTurnsSpec)

/-- 'fanlightlaw01.FloatOne', WHERE WHAT IT READS IS OF BULK AT MOST 1048576: true; the input reads as it did. -/
def floatOneUptoRow : OpenClaim := { program := "ytppoepenmpcbnaa", sum := "fe64aa4043a9cfb14eda42599045d2141a0b7808c9ffcffa26a4cef9f5ab9d43", func := "fanlight/fanlightlaw01.FloatOne", spec := "floatOne", inPlace := ["math.Float64bits", "math.Float64frombits", "math.archFloor", "math.archTrunc"], unfollowed := true, recurses := true, apart := false, narrowed := true }
def FloatOneUptoSaid : Prop := floatOneUptoRow.holds Try.pinned (OpenSpec.upto floatOneSpec)

/-- 'fanlightlaw01.FloatFloors', WHERE WHAT IT READS IS OF BULK AT MOST 1048576: true; the input reads as it did. -/
def floatFloorsUptoRow : OpenClaim := { program := "ytppoepenmpcbnaa", sum := "fe64aa4043a9cfb14eda42599045d2141a0b7808c9ffcffa26a4cef9f5ab9d43", func := "fanlight/fanlightlaw01.FloatFloors", spec := "floatFloors", inPlace := ["math.Float64bits", "math.Float64frombits", "math.archFloor", "math.archTrunc"], unfollowed := true, recurses := true, apart := false, narrowed := true }
def FloatFloorsUptoSaid : Prop := floatFloorsUptoRow.holds Try.pinned (OpenSpec.upto floatFloorsSpec)

/-- 'fanlightlaw01.FloatBack', WHERE WHAT IT READS IS OF BULK AT MOST 1048576: true; the input reads as it did. -/
def floatBackUptoRow : OpenClaim := { program := "ytppoepenmpcbnaa", sum := "fe64aa4043a9cfb14eda42599045d2141a0b7808c9ffcffa26a4cef9f5ab9d43", func := "fanlight/fanlightlaw01.FloatBack", spec := "floatBack", inPlace := ["math.Float64bits", "math.Float64frombits", "math.archFloor", "math.archTrunc"], unfollowed := true, recurses := true, apart := false, narrowed := true }
def FloatBackUptoSaid : Prop := floatBackUptoRow.holds Try.pinned (OpenSpec.upto floatBackSpec)

/-- 'fanlightlaw01.FloatTells', WHERE WHAT IT READS IS OF BULK AT MOST 1048576: true; the input reads as it did. -/
def floatTellsUptoRow : OpenClaim := { program := "ytppoepenmpcbnaa", sum := "fe64aa4043a9cfb14eda42599045d2141a0b7808c9ffcffa26a4cef9f5ab9d43", func := "fanlight/fanlightlaw01.FloatTells", spec := "floatTells", inPlace := ["math.Float64bits", "math.Float64frombits", "math.archTrunc", "math.archFloor"], unfollowed := true, recurses := true, apart := false, narrowed := true }
def FloatTellsUptoSaid : Prop := floatTellsUptoRow.holds Try.pinned (OpenSpec.upto floatTellsSpec)

end Rows
end Go.Proofs.Ytppoepenmpcbnaa
