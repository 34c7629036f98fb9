/-
  NARROWER THAN 'FOR EVERY INPUT', by the rows' own cells (each row's printed sentence says how): ValueTells: loops · ValueParts: loops · ValueSets: loops · ValueOwn: loops · ValueOrder: loops · ValueOrders: loops · QueueOrder: loops · QueueOwn: loops · QueueTells: loops · QueueRefuses: loops · OutboxTells: loops · OutboxStays: loops · OutboxNumbers: loops · OutboxOwn: loops · PackOne: loops.
  DERIVED. THE GIVEN ROWS OF THIS SEAT. 17 by the template 'for every input the law returns true; each argument reads behind the call as it read before'; 0 by the template 'total and deterministic' (their statements: YtkiankpmkglhcaaTotals.lean).
  GIVEN WITH THE SEED: the statements are not yours to turn. If you find one false, say at which input.
  Laid BY PROGRAM, IN A SANDBOX (cutbox-rows.mjs): the forced cells as the released guide's own fill.sh prints them over the translation 995d4dd990fb5f7a… (all of the seat's roots in one cut). By AI agents, Wed Nov 11 2026. No macro, syntax, notation, axiom, sorry.
-/
import Derived.Test.YtkiankpmkglhcaaChecked
import GoSem.Claim
import GoSem.ClaimJoined
import GoSem.ClaimMapViews
import Derived.JoinedTies
import Derived.KernelRfl
namespace Go.Proofs.Ytkiankpmkglhcaa
/- THE CELL 'sum', in the pinned program and in every row, IS THE sha256 OF THE DUMP (.gsa) THAT YtkiankpmkglhcaaProg.lean LOADS. Nothing in Lean hashes anything: it is a label: what it is worth is what the hold of that sum in a sandbox is worth. -/
noncomputable def Try.pinned : Pinned := { name := "ytkiankpmkglhcaa", sum := "995d4dd990fb5f7a3a1f7bdc4bf0ef986c23479a6adcd22df635078c72f3f8bf", checked := Try.checked }
namespace Rows
def none {H : Type} : Left H := { results := [], args := [] }

/-- 'fanlightlaw02.ValueTells': WHATEVER THE INPUT: true; the input reads as it did. -/
def valueTellsSpec : ChangeSpec := { name := "valueTells", fn := fun _ => fun
  | [d] => { results := [.lit (.bool true)], args := [d] }
  | _ => none }
def valueTellsRow : OpenClaim := { program := "ytkiankpmkglhcaa", sum := "995d4dd990fb5f7a3a1f7bdc4bf0ef986c23479a6adcd22df635078c72f3f8bf", func := "fanlight/fanlightlaw02.ValueTells", spec := "valueTells", inPlace := ["math.Float64frombits", "math.Float64bits", "slices.overlaps[string]", "slices.overlaps[fanlight/api.Value]"], unfollowed := true, recurses := true, loops := true, apart := false }
def ValueTellsSaid : Prop := valueTellsRow.holds Try.pinned (OpenSpec.ofChange valueTellsSpec)

/-- ITS FALSE NEIGHBOUR: 'it returns false'. Refute it at one input. -/
def valueTellsWrong : ChangeSpec := { name := "valueTells", fn := fun _ => fun
  | [d] => { results := [.lit (.bool false)], args := [d] }
  | _ => none }
def ValueTellsWrongFalsely : Prop := valueTellsRow.holds Try.pinned (OpenSpec.ofChange valueTellsWrong)

/-- 'fanlightlaw02.ValueParts': WHATEVER THE INPUT: true; the input reads as it did. -/
def valuePartsSpec : ChangeSpec := { name := "valueParts", fn := fun _ => fun
  | [d1, d2, d3] => { results := [.lit (.bool true)], args := [d1, d2, d3] }
  | _ => none }
def valuePartsRow : OpenClaim := { program := "ytkiankpmkglhcaa", sum := "995d4dd990fb5f7a3a1f7bdc4bf0ef986c23479a6adcd22df635078c72f3f8bf", func := "fanlight/fanlightlaw02.ValueParts", spec := "valueParts", inPlace := ["math.Float64frombits", "math.Float64bits", "slices.overlaps[string]", "slices.overlaps[fanlight/api.Value]"], unfollowed := true, recurses := true, loops := true, apart := false }
def ValuePartsSaid : Prop := valuePartsRow.holds Try.pinned (OpenSpec.ofChange valuePartsSpec)

/-- ITS FALSE NEIGHBOUR: 'it returns false'. Refute it at one input. -/
def valuePartsWrong : ChangeSpec := { name := "valueParts", fn := fun _ => fun
  | [d1, d2, d3] => { results := [.lit (.bool false)], args := [d1, d2, d3] }
  | _ => none }
def ValuePartsWrongFalsely : Prop := valuePartsRow.holds Try.pinned (OpenSpec.ofChange valuePartsWrong)

/-- 'fanlightlaw02.ValueSets': WHATEVER THE INPUT: true; the input reads as it did. -/
def valueSetsSpec : ChangeSpec := { name := "valueSets", fn := fun _ => fun
  | [d1, d2, d3, d4] => { results := [.lit (.bool true)], args := [d1, d2, d3, d4] }
  | _ => none }
def valueSetsRow : OpenClaim := { program := "ytkiankpmkglhcaa", sum := "995d4dd990fb5f7a3a1f7bdc4bf0ef986c23479a6adcd22df635078c72f3f8bf", func := "fanlight/fanlightlaw02.ValueSets", spec := "valueSets", inPlace := ["math.Float64frombits", "math.Float64bits", "slices.overlaps[string]", "slices.overlaps[fanlight/api.Value]"], unfollowed := true, recurses := true, loops := true, apart := false }
def ValueSetsSaid : Prop := valueSetsRow.holds Try.pinned (OpenSpec.ofChange valueSetsSpec)

/-- ITS FALSE NEIGHBOUR: 'it returns false'. Refute it at one input. -/
def valueSetsWrong : ChangeSpec := { name := "valueSets", fn := fun _ => fun
  | [d1, d2, d3, d4] => { results := [.lit (.bool false)], args := [d1, d2, d3, d4] }
  | _ => none }
def ValueSetsWrongFalsely : Prop := valueSetsRow.holds Try.pinned (OpenSpec.ofChange valueSetsWrong)

/-- 'fanlightlaw02.ValueOwn': WHATEVER THE INPUT: true; the input reads as it did. -/
def valueOwnSpec : ChangeSpec := { name := "valueOwn", fn := fun _ => fun
  | [d1, d2, d3] => { results := [.lit (.bool true)], args := [d1, d2, d3] }
  | _ => none }
def valueOwnRow : OpenClaim := { program := "ytkiankpmkglhcaa", sum := "995d4dd990fb5f7a3a1f7bdc4bf0ef986c23479a6adcd22df635078c72f3f8bf", func := "fanlight/fanlightlaw02.ValueOwn", spec := "valueOwn", inPlace := ["math.Float64frombits", "math.Float64bits", "slices.overlaps[string]", "slices.overlaps[fanlight/api.Value]"], unfollowed := true, recurses := true, loops := true, apart := false }
def ValueOwnSaid : Prop := valueOwnRow.holds Try.pinned (OpenSpec.ofChange valueOwnSpec)

/-- ITS FALSE NEIGHBOUR: 'it returns false'. Refute it at one input. -/
def valueOwnWrong : ChangeSpec := { name := "valueOwn", fn := fun _ => fun
  | [d1, d2, d3] => { results := [.lit (.bool false)], args := [d1, d2, d3] }
  | _ => none }
def ValueOwnWrongFalsely : Prop := valueOwnRow.holds Try.pinned (OpenSpec.ofChange valueOwnWrong)

/-- 'fanlightlaw02.ValueOrder': WHATEVER THE INPUT: true; the input reads as it did. -/
def valueOrderSpec : ChangeSpec := { name := "valueOrder", fn := fun _ => fun
  | [d1, d2, d3] => { results := [.lit (.bool true)], args := [d1, d2, d3] }
  | _ => none }
def valueOrderRow : OpenClaim := { program := "ytkiankpmkglhcaa", sum := "995d4dd990fb5f7a3a1f7bdc4bf0ef986c23479a6adcd22df635078c72f3f8bf", func := "fanlight/fanlightlaw02.ValueOrder", spec := "valueOrder", inPlace := ["math.Float64frombits", "math.Float64bits", "slices.overlaps[string]", "slices.overlaps[fanlight/api.Value]"], unfollowed := true, recurses := true, loops := true, apart := false }
def ValueOrderSaid : Prop := valueOrderRow.holds Try.pinned (OpenSpec.ofChange valueOrderSpec)

/-- ITS FALSE NEIGHBOUR: 'it returns false'. Refute it at one input. -/
def valueOrderWrong : ChangeSpec := { name := "valueOrder", fn := fun _ => fun
  | [d1, d2, d3] => { results := [.lit (.bool false)], args := [d1, d2, d3] }
  | _ => none }
def ValueOrderWrongFalsely : Prop := valueOrderRow.holds Try.pinned (OpenSpec.ofChange valueOrderWrong)

/-- 'fanlightlaw02.ValueOrders': WHATEVER THE INPUT: true; the input reads as it did. -/
def valueOrdersSpec : ChangeSpec := { name := "valueOrders", fn := fun _ => fun
  | [d1, d2] => { results := [.lit (.bool true)], args := [d1, d2] }
  | _ => none }
def valueOrdersRow : OpenClaim := { program := "ytkiankpmkglhcaa", sum := "995d4dd990fb5f7a3a1f7bdc4bf0ef986c23479a6adcd22df635078c72f3f8bf", func := "fanlight/fanlightlaw02.ValueOrders", spec := "valueOrders", inPlace := ["math.Float64frombits", "math.Float64bits", "slices.overlaps[string]", "slices.overlaps[fanlight/api.Value]"], unfollowed := true, recurses := true, loops := true, apart := false }
def ValueOrdersSaid : Prop := valueOrdersRow.holds Try.pinned (OpenSpec.ofChange valueOrdersSpec)

/-- ITS FALSE NEIGHBOUR: 'it returns false'. Refute it at one input. -/
def valueOrdersWrong : ChangeSpec := { name := "valueOrders", fn := fun _ => fun
  | [d1, d2] => { results := [.lit (.bool false)], args := [d1, d2] }
  | _ => none }
def ValueOrdersWrongFalsely : Prop := valueOrdersRow.holds Try.pinned (OpenSpec.ofChange valueOrdersWrong)

/-- 'fanlightlaw18.QueueNew': WHATEVER THE INPUT: true; the input reads as it did. -/
def queueNewSpec : ChangeSpec := { name := "queueNew", fn := fun _ => fun
  | [d] => { results := [.lit (.bool true)], args := [d] }
  | _ => none }
def queueNewRow : OpenClaim := { program := "ytkiankpmkglhcaa", sum := "995d4dd990fb5f7a3a1f7bdc4bf0ef986c23479a6adcd22df635078c72f3f8bf", func := "fanlight/fanlightlaw18.QueueNew", spec := "queueNew", inPlace := ["math.Float64frombits", "math.Float64bits"], unfollowed := true, recurses := true, apart := false }
def QueueNewSaid : Prop := queueNewRow.holds Try.pinned (OpenSpec.ofChange queueNewSpec)

/-- ITS FALSE NEIGHBOUR: 'it returns false'. Refute it at one input. -/
def queueNewWrong : ChangeSpec := { name := "queueNew", fn := fun _ => fun
  | [d] => { results := [.lit (.bool false)], args := [d] }
  | _ => none }
def QueueNewWrongFalsely : Prop := queueNewRow.holds Try.pinned (OpenSpec.ofChange queueNewWrong)

/-- 'fanlightlaw18.QueueOrder': WHATEVER THE INPUT: true; the input reads as it did. -/
def queueOrderSpec : ChangeSpec := { name := "queueOrder", fn := fun _ => fun
  | [d1, d2, d3] => { results := [.lit (.bool true)], args := [d1, d2, d3] }
  | _ => none }
def queueOrderRow : OpenClaim := { program := "ytkiankpmkglhcaa", sum := "995d4dd990fb5f7a3a1f7bdc4bf0ef986c23479a6adcd22df635078c72f3f8bf", func := "fanlight/fanlightlaw18.QueueOrder", spec := "queueOrder", inPlace := ["math.Float64frombits", "math.Float64bits"], unfollowed := true, recurses := true, loops := true, apart := false }
def QueueOrderSaid : Prop := queueOrderRow.holds Try.pinned (OpenSpec.ofChange queueOrderSpec)

/-- ITS FALSE NEIGHBOUR: 'it returns false'. Refute it at one input. -/
def queueOrderWrong : ChangeSpec := { name := "queueOrder", fn := fun _ => fun
  | [d1, d2, d3] => { results := [.lit (.bool false)], args := [d1, d2, d3] }
  | _ => none }
def QueueOrderWrongFalsely : Prop := queueOrderRow.holds Try.pinned (OpenSpec.ofChange queueOrderWrong)

/-- 'fanlightlaw18.QueueOwn': WHATEVER THE INPUT: true; the input reads as it did. -/
def queueOwnSpec : ChangeSpec := { name := "queueOwn", fn := fun _ => fun
  | [d1, d2, d3] => { results := [.lit (.bool true)], args := [d1, d2, d3] }
  | _ => none }
def queueOwnRow : OpenClaim := { program := "ytkiankpmkglhcaa", sum := "995d4dd990fb5f7a3a1f7bdc4bf0ef986c23479a6adcd22df635078c72f3f8bf", func := "fanlight/fanlightlaw18.QueueOwn", spec := "queueOwn", inPlace := ["math.Float64frombits", "math.Float64bits"], unfollowed := true, recurses := true, loops := true, apart := false }
def QueueOwnSaid : Prop := queueOwnRow.holds Try.pinned (OpenSpec.ofChange queueOwnSpec)

/-- ITS FALSE NEIGHBOUR: 'it returns false'. Refute it at one input. -/
def queueOwnWrong : ChangeSpec := { name := "queueOwn", fn := fun _ => fun
  | [d1, d2, d3] => { results := [.lit (.bool false)], args := [d1, d2, d3] }
  | _ => none }
def QueueOwnWrongFalsely : Prop := queueOwnRow.holds Try.pinned (OpenSpec.ofChange queueOwnWrong)

/-- 'fanlightlaw18.QueueTells': WHATEVER THE INPUT: true; the input reads as it did. -/
def queueTellsSpec : ChangeSpec := { name := "queueTells", fn := fun _ => fun
  | [d1, d2, d3] => { results := [.lit (.bool true)], args := [d1, d2, d3] }
  | _ => none }
def queueTellsRow : OpenClaim := { program := "ytkiankpmkglhcaa", sum := "995d4dd990fb5f7a3a1f7bdc4bf0ef986c23479a6adcd22df635078c72f3f8bf", func := "fanlight/fanlightlaw18.QueueTells", spec := "queueTells", inPlace := ["math.Float64frombits", "math.Float64bits"], unfollowed := true, recurses := true, loops := true, apart := false }
def QueueTellsSaid : Prop := queueTellsRow.holds Try.pinned (OpenSpec.ofChange queueTellsSpec)

/-- ITS FALSE NEIGHBOUR: 'it returns false'. Refute it at one input. -/
def queueTellsWrong : ChangeSpec := { name := "queueTells", fn := fun _ => fun
  | [d1, d2, d3] => { results := [.lit (.bool false)], args := [d1, d2, d3] }
  | _ => none }
def QueueTellsWrongFalsely : Prop := queueTellsRow.holds Try.pinned (OpenSpec.ofChange queueTellsWrong)

/-- 'fanlightlaw18.QueueRefuses': WHATEVER THE INPUT: true; the input reads as it did. -/
def queueRefusesSpec : ChangeSpec := { name := "queueRefuses", fn := fun _ => fun
  | [d1, d2] => { results := [.lit (.bool true)], args := [d1, d2] }
  | _ => none }
def queueRefusesRow : OpenClaim := { program := "ytkiankpmkglhcaa", sum := "995d4dd990fb5f7a3a1f7bdc4bf0ef986c23479a6adcd22df635078c72f3f8bf", func := "fanlight/fanlightlaw18.QueueRefuses", spec := "queueRefuses", inPlace := ["math.Float64frombits", "math.Float64bits"], unfollowed := true, recurses := true, loops := true, apart := false }
def QueueRefusesSaid : Prop := queueRefusesRow.holds Try.pinned (OpenSpec.ofChange queueRefusesSpec)

/-- ITS FALSE NEIGHBOUR: 'it returns false'. Refute it at one input. -/
def queueRefusesWrong : ChangeSpec := { name := "queueRefuses", fn := fun _ => fun
  | [d1, d2] => { results := [.lit (.bool false)], args := [d1, d2] }
  | _ => none }
def QueueRefusesWrongFalsely : Prop := queueRefusesRow.holds Try.pinned (OpenSpec.ofChange queueRefusesWrong)

/-- 'fanlightlaw08.OutboxTells': WHATEVER THE INPUT: true; the input reads as it did. -/
def outboxTellsSpec : ChangeSpec := { name := "outboxTells", fn := fun _ => fun
  | [d1, d2, d3, d4, d5] => { results := [.lit (.bool true)], args := [d1, d2, d3, d4, d5] }
  | _ => none }
def outboxTellsRow : OpenClaim := { program := "ytkiankpmkglhcaa", sum := "995d4dd990fb5f7a3a1f7bdc4bf0ef986c23479a6adcd22df635078c72f3f8bf", func := "fanlight/fanlightlaw08.OutboxTells", spec := "outboxTells", inPlace := ["math.Float64frombits", "math.Float64bits"], unfollowed := true, recurses := true, loops := true, apart := false }
def OutboxTellsSaid : Prop := outboxTellsRow.holds Try.pinned (OpenSpec.ofChange outboxTellsSpec)

/-- ITS FALSE NEIGHBOUR: 'it returns false'. Refute it at one input. -/
def outboxTellsWrong : ChangeSpec := { name := "outboxTells", fn := fun _ => fun
  | [d1, d2, d3, d4, d5] => { results := [.lit (.bool false)], args := [d1, d2, d3, d4, d5] }
  | _ => none }
def OutboxTellsWrongFalsely : Prop := outboxTellsRow.holds Try.pinned (OpenSpec.ofChange outboxTellsWrong)

/-- 'fanlightlaw08.OutboxStays': WHATEVER THE INPUT: true; the input reads as it did. -/
def outboxStaysSpec : ChangeSpec := { name := "outboxStays", fn := fun _ => fun
  | [d1, d2, d3] => { results := [.lit (.bool true)], args := [d1, d2, d3] }
  | _ => none }
def outboxStaysRow : OpenClaim := { program := "ytkiankpmkglhcaa", sum := "995d4dd990fb5f7a3a1f7bdc4bf0ef986c23479a6adcd22df635078c72f3f8bf", func := "fanlight/fanlightlaw08.OutboxStays", spec := "outboxStays", inPlace := ["math.Float64frombits", "math.Float64bits"], unfollowed := true, recurses := true, loops := true, apart := false }
def OutboxStaysSaid : Prop := outboxStaysRow.holds Try.pinned (OpenSpec.ofChange outboxStaysSpec)

/-- ITS FALSE NEIGHBOUR: 'it returns false'. Refute it at one input. -/
def outboxStaysWrong : ChangeSpec := { name := "outboxStays", fn := fun _ => fun
  | [d1, d2, d3] => { results := [.lit (.bool false)], args := [d1, d2, d3] }
  | _ => none }
def OutboxStaysWrongFalsely : Prop := outboxStaysRow.holds Try.pinned (OpenSpec.ofChange outboxStaysWrong)

/-- 'fanlightlaw08.OutboxNumbers': WHATEVER THE INPUT: true; the input reads as it did. -/
def outboxNumbersSpec : ChangeSpec := { name := "outboxNumbers", fn := fun _ => fun
  | [d1, d2, d3] => { results := [.lit (.bool true)], args := [d1, d2, d3] }
  | _ => none }
def outboxNumbersRow : OpenClaim := { program := "ytkiankpmkglhcaa", sum := "995d4dd990fb5f7a3a1f7bdc4bf0ef986c23479a6adcd22df635078c72f3f8bf", func := "fanlight/fanlightlaw08.OutboxNumbers", spec := "outboxNumbers", inPlace := ["math.Float64frombits", "math.Float64bits"], unfollowed := true, recurses := true, loops := true, apart := false }
def OutboxNumbersSaid : Prop := outboxNumbersRow.holds Try.pinned (OpenSpec.ofChange outboxNumbersSpec)

/-- ITS FALSE NEIGHBOUR: 'it returns false'. Refute it at one input. -/
def outboxNumbersWrong : ChangeSpec := { name := "outboxNumbers", fn := fun _ => fun
  | [d1, d2, d3] => { results := [.lit (.bool false)], args := [d1, d2, d3] }
  | _ => none }
def OutboxNumbersWrongFalsely : Prop := outboxNumbersRow.holds Try.pinned (OpenSpec.ofChange outboxNumbersWrong)

/-- 'fanlightlaw08.OutboxOwn': WHATEVER THE INPUT: true; the input reads as it did. -/
def outboxOwnSpec : ChangeSpec := { name := "outboxOwn", fn := fun _ => fun
  | [d1, d2, d3] => { results := [.lit (.bool true)], args := [d1, d2, d3] }
  | _ => none }
def outboxOwnRow : OpenClaim := { program := "ytkiankpmkglhcaa", sum := "995d4dd990fb5f7a3a1f7bdc4bf0ef986c23479a6adcd22df635078c72f3f8bf", func := "fanlight/fanlightlaw08.OutboxOwn", spec := "outboxOwn", inPlace := ["math.Float64frombits", "math.Float64bits"], unfollowed := true, recurses := true, loops := true, apart := false }
def OutboxOwnSaid : Prop := outboxOwnRow.holds Try.pinned (OpenSpec.ofChange outboxOwnSpec)

/-- ITS FALSE NEIGHBOUR: 'it returns false'. Refute it at one input. -/
def outboxOwnWrong : ChangeSpec := { name := "outboxOwn", fn := fun _ => fun
  | [d1, d2, d3] => { results := [.lit (.bool false)], args := [d1, d2, d3] }
  | _ => none }
def OutboxOwnWrongFalsely : Prop := outboxOwnRow.holds Try.pinned (OpenSpec.ofChange outboxOwnWrong)

/-- 'fanlightlaw08.OutboxFull': WHATEVER THE INPUT: true; the input reads as it did. -/
def outboxFullSpec : ChangeSpec := { name := "outboxFull", fn := fun _ => fun
  | [d1, d2] => { results := [.lit (.bool true)], args := [d1, d2] }
  | _ => none }
def outboxFullRow : OpenClaim := { program := "ytkiankpmkglhcaa", sum := "995d4dd990fb5f7a3a1f7bdc4bf0ef986c23479a6adcd22df635078c72f3f8bf", func := "fanlight/fanlightlaw08.OutboxFull", spec := "outboxFull", inPlace := ["math.Float64frombits", "math.Float64bits"], unfollowed := true, recurses := true, apart := false }
def OutboxFullSaid : Prop := outboxFullRow.holds Try.pinned (OpenSpec.ofChange outboxFullSpec)

/-- ITS FALSE NEIGHBOUR: 'it returns false'. Refute it at one input. -/
def outboxFullWrong : ChangeSpec := { name := "outboxFull", fn := fun _ => fun
  | [d1, d2] => { results := [.lit (.bool false)], args := [d1, d2] }
  | _ => none }
def OutboxFullWrongFalsely : Prop := outboxFullRow.holds Try.pinned (OpenSpec.ofChange outboxFullWrong)

/-- 'fanlightlaw03.PackOne': WHATEVER THE INPUT: true; the input reads as it did. -/
def packOneSpec : ChangeSpec := { name := "packOne", fn := fun _ => fun
  | [d1, d2] => { results := [.lit (.bool true)], args := [d1, d2] }
  | _ => none }
def packOneRow : OpenClaim := { program := "ytkiankpmkglhcaa", sum := "995d4dd990fb5f7a3a1f7bdc4bf0ef986c23479a6adcd22df635078c72f3f8bf", func := "fanlight/fanlightlaw03.PackOne", spec := "packOne", inPlace := ["math.Float64frombits", "math.Float64bits"], unfollowed := true, recurses := true, loops := true, apart := false }
def PackOneSaid : Prop := packOneRow.holds Try.pinned (OpenSpec.ofChange packOneSpec)

/-- ITS FALSE NEIGHBOUR: 'it returns false'. Refute it at one input. -/
def packOneWrong : ChangeSpec := { name := "packOne", fn := fun _ => fun
  | [d1, d2] => { results := [.lit (.bool false)], args := [d1, d2] }
  | _ => none }
def PackOneWrongFalsely : Prop := packOneRow.holds Try.pinned (OpenSpec.ofChange packOneWrong)

/- THE SECOND FORM. 'bulk': how many values and letters a reading holds, each counted each time it is reached (what is shared counts as often as it is met; a slice's spare places count too). A statement '..UptoSaid' is the law's where the arguments, and the package variables that the reading takes, are together of bulk at most 1048576: NARROWER than '..Said'. Prove '..Said' where nothing that the law and all that it calls make is longer than what came in: it says more and counts as full. Else prove '..UptoSaid'. A law counts once. -/
mutual
def uptoBulk {H : Type} : DataW H → Nat
  | .lit (.string bytes) => bytes.length + 1
  | .lit _ => 1
  | .nil => 1
  | .ptr d => uptoBulk d + 1
  | .slice elems spare => uptoBulkAll elems + uptoBulkAll spare + 1
  | .agg parts => uptoBulkAll parts + 1
  | .iface _ d => uptoBulk d + 1
  | .map entries => uptoBulkEntries entries + 1
  | .held _ => 1
def uptoBulkAll {H : Type} : List (DataW H) → Nat
  | [] => 0
  | d :: r => uptoBulk d + uptoBulkAll r
def uptoBulkEntries {H : Type} : List (Lit × DataW H) → Nat
  | [] => 0
  | x :: r => uptoBulkEntry x + uptoBulkEntries r
def uptoBulkEntry {H : Type} : Lit × DataW H → Nat
  | (.string bytes, d) => bytes.length + uptoBulk d + 1
  | (_, d) => uptoBulk d + 1
 end
def uptoSmall : (H : Type) → List (DataW H) → Bool := fun _ ds => decide (uptoBulkAll ds ≤ 1048576)
def OpenSpec.upto (s : _root_.Go.ChangeSpec) : _root_.Go.OpenSpec := { _root_.Go.OpenSpec.ofChange s with cond := some uptoSmall }

/-- 'fanlightlaw02.ValueTells', WHERE WHAT IT READS IS OF BULK AT MOST 1048576: true; the input reads as it did. -/
def valueTellsUptoRow : OpenClaim := { program := "ytkiankpmkglhcaa", sum := "995d4dd990fb5f7a3a1f7bdc4bf0ef986c23479a6adcd22df635078c72f3f8bf", func := "fanlight/fanlightlaw02.ValueTells", spec := "valueTells", inPlace := ["math.Float64frombits", "math.Float64bits", "slices.overlaps[string]", "slices.overlaps[fanlight/api.Value]"], unfollowed := true, recurses := true, loops := true, apart := false, narrowed := true }
def ValueTellsUptoSaid : Prop := valueTellsUptoRow.holds Try.pinned (OpenSpec.upto valueTellsSpec)

/-- 'fanlightlaw02.ValueParts', WHERE WHAT IT READS IS OF BULK AT MOST 1048576: true; the input reads as it did. -/
def valuePartsUptoRow : OpenClaim := { program := "ytkiankpmkglhcaa", sum := "995d4dd990fb5f7a3a1f7bdc4bf0ef986c23479a6adcd22df635078c72f3f8bf", func := "fanlight/fanlightlaw02.ValueParts", spec := "valueParts", inPlace := ["math.Float64frombits", "math.Float64bits", "slices.overlaps[string]", "slices.overlaps[fanlight/api.Value]"], unfollowed := true, recurses := true, loops := true, apart := false, narrowed := true }
def ValuePartsUptoSaid : Prop := valuePartsUptoRow.holds Try.pinned (OpenSpec.upto valuePartsSpec)

/-- 'fanlightlaw02.ValueSets', WHERE WHAT IT READS IS OF BULK AT MOST 1048576: true; the input reads as it did. -/
def valueSetsUptoRow : OpenClaim := { program := "ytkiankpmkglhcaa", sum := "995d4dd990fb5f7a3a1f7bdc4bf0ef986c23479a6adcd22df635078c72f3f8bf", func := "fanlight/fanlightlaw02.ValueSets", spec := "valueSets", inPlace := ["math.Float64frombits", "math.Float64bits", "slices.overlaps[string]", "slices.overlaps[fanlight/api.Value]"], unfollowed := true, recurses := true, loops := true, apart := false, narrowed := true }
def ValueSetsUptoSaid : Prop := valueSetsUptoRow.holds Try.pinned (OpenSpec.upto valueSetsSpec)

/-- 'fanlightlaw02.ValueOwn', WHERE WHAT IT READS IS OF BULK AT MOST 1048576: true; the input reads as it did. -/
def valueOwnUptoRow : OpenClaim := { program := "ytkiankpmkglhcaa", sum := "995d4dd990fb5f7a3a1f7bdc4bf0ef986c23479a6adcd22df635078c72f3f8bf", func := "fanlight/fanlightlaw02.ValueOwn", spec := "valueOwn", inPlace := ["math.Float64frombits", "math.Float64bits", "slices.overlaps[string]", "slices.overlaps[fanlight/api.Value]"], unfollowed := true, recurses := true, loops := true, apart := false, narrowed := true }
def ValueOwnUptoSaid : Prop := valueOwnUptoRow.holds Try.pinned (OpenSpec.upto valueOwnSpec)

/-- 'fanlightlaw02.ValueOrder', WHERE WHAT IT READS IS OF BULK AT MOST 1048576: true; the input reads as it did. -/
def valueOrderUptoRow : OpenClaim := { program := "ytkiankpmkglhcaa", sum := "995d4dd990fb5f7a3a1f7bdc4bf0ef986c23479a6adcd22df635078c72f3f8bf", func := "fanlight/fanlightlaw02.ValueOrder", spec := "valueOrder", inPlace := ["math.Float64frombits", "math.Float64bits", "slices.overlaps[string]", "slices.overlaps[fanlight/api.Value]"], unfollowed := true, recurses := true, loops := true, apart := false, narrowed := true }
def ValueOrderUptoSaid : Prop := valueOrderUptoRow.holds Try.pinned (OpenSpec.upto valueOrderSpec)

/-- 'fanlightlaw02.ValueOrders', WHERE WHAT IT READS IS OF BULK AT MOST 1048576: true; the input reads as it did. -/
def valueOrdersUptoRow : OpenClaim := { program := "ytkiankpmkglhcaa", sum := "995d4dd990fb5f7a3a1f7bdc4bf0ef986c23479a6adcd22df635078c72f3f8bf", func := "fanlight/fanlightlaw02.ValueOrders", spec := "valueOrders", inPlace := ["math.Float64frombits", "math.Float64bits", "slices.overlaps[string]", "slices.overlaps[fanlight/api.Value]"], unfollowed := true, recurses := true, loops := true, apart := false, narrowed := true }
def ValueOrdersUptoSaid : Prop := valueOrdersUptoRow.holds Try.pinned (OpenSpec.upto valueOrdersSpec)

/-- 'fanlightlaw18.QueueNew', WHERE WHAT IT READS IS OF BULK AT MOST 1048576: true; the input reads as it did. -/
def queueNewUptoRow : OpenClaim := { program := "ytkiankpmkglhcaa", sum := "995d4dd990fb5f7a3a1f7bdc4bf0ef986c23479a6adcd22df635078c72f3f8bf", func := "fanlight/fanlightlaw18.QueueNew", spec := "queueNew", inPlace := ["math.Float64frombits", "math.Float64bits"], unfollowed := true, recurses := true, apart := false, narrowed := true }
def QueueNewUptoSaid : Prop := queueNewUptoRow.holds Try.pinned (OpenSpec.upto queueNewSpec)

/-- 'fanlightlaw18.QueueOrder', WHERE WHAT IT READS IS OF BULK AT MOST 1048576: true; the input reads as it did. -/
def queueOrderUptoRow : OpenClaim := { program := "ytkiankpmkglhcaa", sum := "995d4dd990fb5f7a3a1f7bdc4bf0ef986c23479a6adcd22df635078c72f3f8bf", func := "fanlight/fanlightlaw18.QueueOrder", spec := "queueOrder", inPlace := ["math.Float64frombits", "math.Float64bits"], unfollowed := true, recurses := true, loops := true, apart := false, narrowed := true }
def QueueOrderUptoSaid : Prop := queueOrderUptoRow.holds Try.pinned (OpenSpec.upto queueOrderSpec)

/-- 'fanlightlaw18.QueueOwn', WHERE WHAT IT READS IS OF BULK AT MOST 1048576: true; the input reads as it did. -/
def queueOwnUptoRow : OpenClaim := { program := "ytkiankpmkglhcaa", sum := "995d4dd990fb5f7a3a1f7bdc4bf0ef986c23479a6adcd22df635078c72f3f8bf", func := "fanlight/fanlightlaw18.QueueOwn", spec := "queueOwn", inPlace := ["math.Float64frombits", "math.Float64bits"], unfollowed := true, recurses := true, loops := true, apart := false, narrowed := true }
def QueueOwnUptoSaid : Prop := queueOwnUptoRow.holds Try.pinned (OpenSpec.upto queueOwnSpec)

/-- 'fanlightlaw18.QueueTells', WHERE WHAT IT READS IS OF BULK AT MOST 1048576: true; the input reads as it did. -/
def queueTellsUptoRow : OpenClaim := { program := "ytkiankpmkglhcaa", sum := "995d4dd990fb5f7a3a1f7bdc4bf0ef986c23479a6adcd22df635078c72f3f8bf", func := "fanlight/fanlightlaw18.QueueTells", spec := "queueTells", inPlace := ["math.Float64frombits", "math.Float64bits"], unfollowed := true, recurses := true, loops := true, apart := false, narrowed := true }
def QueueTellsUptoSaid : Prop := queueTellsUptoRow.holds Try.pinned (OpenSpec.upto queueTellsSpec)

/-- 'fanlightlaw18.QueueRefuses', WHERE WHAT IT READS IS OF BULK AT MOST 1048576: true; the input reads as it did. -/
def queueRefusesUptoRow : OpenClaim := { program := "ytkiankpmkglhcaa", sum := "995d4dd990fb5f7a3a1f7bdc4bf0ef986c23479a6adcd22df635078c72f3f8bf", func := "fanlight/fanlightlaw18.QueueRefuses", spec := "queueRefuses", inPlace := ["math.Float64frombits", "math.Float64bits"], unfollowed := true, recurses := true, loops := true, apart := false, narrowed := true }
def QueueRefusesUptoSaid : Prop := queueRefusesUptoRow.holds Try.pinned (OpenSpec.upto queueRefusesSpec)

/-- 'fanlightlaw08.OutboxTells', WHERE WHAT IT READS IS OF BULK AT MOST 1048576: true; the input reads as it did. -/
def outboxTellsUptoRow : OpenClaim := { program := "ytkiankpmkglhcaa", sum := "995d4dd990fb5f7a3a1f7bdc4bf0ef986c23479a6adcd22df635078c72f3f8bf", func := "fanlight/fanlightlaw08.OutboxTells", spec := "outboxTells", inPlace := ["math.Float64frombits", "math.Float64bits"], unfollowed := true, recurses := true, loops := true, apart := false, narrowed := true }
def OutboxTellsUptoSaid : Prop := outboxTellsUptoRow.holds Try.pinned (OpenSpec.upto outboxTellsSpec)

/-- 'fanlightlaw08.OutboxStays', WHERE WHAT IT READS IS OF BULK AT MOST 1048576: true; the input reads as it did. -/
def outboxStaysUptoRow : OpenClaim := { program := "ytkiankpmkglhcaa", sum := "995d4dd990fb5f7a3a1f7bdc4bf0ef986c23479a6adcd22df635078c72f3f8bf", func := "fanlight/fanlightlaw08.OutboxStays", spec := "outboxStays", inPlace := ["math.Float64frombits", "math.Float64bits"], unfollowed := true, recurses := true, loops := true, apart := false, narrowed := true }
def OutboxStaysUptoSaid : Prop := outboxStaysUptoRow.holds Try.pinned (OpenSpec.upto outboxStaysSpec)

/-- 'fanlightlaw08.OutboxNumbers', WHERE WHAT IT READS IS OF BULK AT MOST 1048576: true; the input reads as it did. -/
def outboxNumbersUptoRow : OpenClaim := { program := "ytkiankpmkglhcaa", sum := "995d4dd990fb5f7a3a1f7bdc4bf0ef986c23479a6adcd22df635078c72f3f8bf", func := "fanlight/fanlightlaw08.OutboxNumbers", spec := "outboxNumbers", inPlace := ["math.Float64frombits", "math.Float64bits"], unfollowed := true, recurses := true, loops := true, apart := false, narrowed := true }
def OutboxNumbersUptoSaid : Prop := outboxNumbersUptoRow.holds Try.pinned (OpenSpec.upto outboxNumbersSpec)

/-- 'fanlightlaw08.OutboxOwn', WHERE WHAT IT READS IS OF BULK AT MOST 1048576: true; the input reads as it did. -/
def outboxOwnUptoRow : OpenClaim := { program := "ytkiankpmkglhcaa", sum := "995d4dd990fb5f7a3a1f7bdc4bf0ef986c23479a6adcd22df635078c72f3f8bf", func := "fanlight/fanlightlaw08.OutboxOwn", spec := "outboxOwn", inPlace := ["math.Float64frombits", "math.Float64bits"], unfollowed := true, recurses := true, loops := true, apart := false, narrowed := true }
def OutboxOwnUptoSaid : Prop := outboxOwnUptoRow.holds Try.pinned (OpenSpec.upto outboxOwnSpec)

/-- 'fanlightlaw08.OutboxFull', WHERE WHAT IT READS IS OF BULK AT MOST 1048576: true; the input reads as it did. -/
def outboxFullUptoRow : OpenClaim := { program := "ytkiankpmkglhcaa", sum := "995d4dd990fb5f7a3a1f7bdc4bf0ef986c23479a6adcd22df635078c72f3f8bf", func := "fanlight/fanlightlaw08.OutboxFull", spec := "outboxFull", inPlace := ["math.Float64frombits", "math.Float64bits"], unfollowed := true, recurses := true, apart := false, narrowed := true }
def OutboxFullUptoSaid : Prop := outboxFullUptoRow.holds Try.pinned (OpenSpec.upto outboxFullSpec)

/-- 'fanlightlaw03.PackOne', WHERE WHAT IT READS IS OF BULK AT MOST 1048576: true; the input reads as it did. -/
def packOneUptoRow : OpenClaim := { program := "ytkiankpmkglhcaa", sum := "995d4dd990fb5f7a3a1f7bdc4bf0ef986c23479a6adcd22df635078c72f3f8bf", func := "fanlight/fanlightlaw03.PackOne", spec := "packOne", inPlace := ["math.Float64frombits", "math.Float64bits"], unfollowed := true, recurses := true, loops := true, apart := false, narrowed := true }
def PackOneUptoSaid : Prop := packOneUptoRow.holds Try.pinned (OpenSpec.upto packOneSpec)

end Rows
end Go.Proofs.Ytkiankpmkglhcaa
