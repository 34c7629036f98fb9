/-
  NARROWER THAN 'FOR EVERY INPUT', by the rows' own cells (each row's printed sentence says how): ViewTells: loops · ViewMay: loops · ViewFuel: loops · ViewOwn: loops · ModelNew: loops · ModelBatches: loops · ModelMay: loops.
  DERIVED. THE GIVEN ROWS OF THIS SEAT. 9 by the template 'for every input the law returns true; each argument reads behind the call as it read before'; 0 by the template 'total and deterministic' (their statements: YtammalmlbabpbaaGreatTotals.lean).
  GIVEN WITH THE SEED: the statements are not yours to turn. If you find one false, say at which input.
  Laid BY PROGRAM, IN A SANDBOX (cutbox-rows.mjs): the forced cells as the released guide's own fill.sh prints them over the translation 2ebf601cc083602b… (all of the seat's roots in one cut). By AI agents, Wed Nov 11 2026. No macro, syntax, notation, axiom, sorry.
-/
import Derived.Test.YtammalmlbabpbaaGreatChecked
import GoSem.Claim
import GoSem.ClaimJoined
import GoSem.ClaimMapViews
import Derived.JoinedTies
import Derived.KernelRfl
namespace Go.Proofs.YtammalmlbabpbaaGreat
/- THE CELL 'sum', in the pinned program and in every row, IS THE sha256 OF THE DUMP (.gsa) THAT YtammalmlbabpbaaGreatProg.lean LOADS. Nothing in Lean hashes anything: it is a label: what it is worth is what the hold of that sum in a sandbox is worth. -/
noncomputable def Tryz.pinned : Pinned := { name := "ytammalmlbabpbaagreat", sum := "2ebf601cc083602b0e10ecf4a32c8f0938fa0d5927a8073b4d3806f911940e66", checked := Tryz.checked }
namespace Rows
def none {H : Type} : Left H := { results := [], args := [] }

/-- 'fanlightlaw17.ViewTells': WHATEVER THE INPUT: true; the input reads as it did. -/
def viewTellsSpec : ChangeSpec := { name := "viewTells", fn := fun _ => fun
  | [d1, d2, d3] => { results := [.lit (.bool true)], args := [d1, d2, d3] }
  | _ => none }
def viewTellsRow : OpenClaim := { program := "ytammalmlbabpbaagreat", sum := "2ebf601cc083602b0e10ecf4a32c8f0938fa0d5927a8073b4d3806f911940e66", func := "fanlight/fanlightlaw17.ViewTells", spec := "viewTells", inPlace := ["math.Float64frombits", "math.Float64bits", "math.archFloor", "math.archTrunc", "slices.overlaps[string]", "slices.overlaps[fanlight/api.Value]"], unfollowed := true, recurses := true, loops := true, apart := false }
def ViewTellsSaid : Prop := viewTellsRow.holds Tryz.pinned (OpenSpec.ofChange viewTellsSpec)

/-- ITS FALSE NEIGHBOUR: 'it returns false'. Refute it at one input. -/
def viewTellsWrong : ChangeSpec := { name := "viewTells", fn := fun _ => fun
  | [d1, d2, d3] => { results := [.lit (.bool false)], args := [d1, d2, d3] }
  | _ => none }
def ViewTellsWrongFalsely : Prop := viewTellsRow.holds Tryz.pinned (OpenSpec.ofChange viewTellsWrong)

/-- 'fanlightlaw17.ViewMay': WHATEVER THE INPUT: true; the input reads as it did. -/
def viewMaySpec : ChangeSpec := { name := "viewMay", fn := fun _ => fun
  | [d1, d2, d3] => { results := [.lit (.bool true)], args := [d1, d2, d3] }
  | _ => none }
def viewMayRow : OpenClaim := { program := "ytammalmlbabpbaagreat", sum := "2ebf601cc083602b0e10ecf4a32c8f0938fa0d5927a8073b4d3806f911940e66", func := "fanlight/fanlightlaw17.ViewMay", spec := "viewMay", inPlace := ["math.Float64frombits", "math.Float64bits", "math.archFloor", "math.archTrunc", "slices.overlaps[string]", "slices.overlaps[fanlight/api.Value]"], unfollowed := true, recurses := true, loops := true, apart := false }
def ViewMaySaid : Prop := viewMayRow.holds Tryz.pinned (OpenSpec.ofChange viewMaySpec)

/-- ITS FALSE NEIGHBOUR: 'it returns false'. Refute it at one input. -/
def viewMayWrong : ChangeSpec := { name := "viewMay", fn := fun _ => fun
  | [d1, d2, d3] => { results := [.lit (.bool false)], args := [d1, d2, d3] }
  | _ => none }
def ViewMayWrongFalsely : Prop := viewMayRow.holds Tryz.pinned (OpenSpec.ofChange viewMayWrong)

/-- 'fanlightlaw17.ViewLists': WHATEVER THE INPUT: true; the input reads as it did. -/
def viewListsSpec : ChangeSpec := { name := "viewLists", fn := fun _ => fun
  | [d1, d2] => { results := [.lit (.bool true)], args := [d1, d2] }
  | _ => none }
def viewListsRow : OpenClaim := { program := "ytammalmlbabpbaagreat", sum := "2ebf601cc083602b0e10ecf4a32c8f0938fa0d5927a8073b4d3806f911940e66", func := "fanlight/fanlightlaw17.ViewLists", spec := "viewLists", inPlace := ["math.Float64frombits", "math.Float64bits", "math.archFloor", "math.archTrunc", "slices.overlaps[string]", "slices.overlaps[fanlight/api.Value]"], unfollowed := true, recurses := true, apart := false }
def ViewListsSaid : Prop := viewListsRow.holds Tryz.pinned (OpenSpec.ofChange viewListsSpec)

/-- ITS FALSE NEIGHBOUR: 'it returns false'. Refute it at one input. -/
def viewListsWrong : ChangeSpec := { name := "viewLists", fn := fun _ => fun
  | [d1, d2] => { results := [.lit (.bool false)], args := [d1, d2] }
  | _ => none }
def ViewListsWrongFalsely : Prop := viewListsRow.holds Tryz.pinned (OpenSpec.ofChange viewListsWrong)

/-- 'fanlightlaw17.ViewFuel': WHATEVER THE INPUT: true; the input reads as it did. -/
def viewFuelSpec : ChangeSpec := { name := "viewFuel", fn := fun _ => fun
  | [d1, d2, d3] => { results := [.lit (.bool true)], args := [d1, d2, d3] }
  | _ => none }
def viewFuelRow : OpenClaim := { program := "ytammalmlbabpbaagreat", sum := "2ebf601cc083602b0e10ecf4a32c8f0938fa0d5927a8073b4d3806f911940e66", func := "fanlight/fanlightlaw17.ViewFuel", spec := "viewFuel", inPlace := ["math.Float64frombits", "math.Float64bits", "math.archFloor", "math.archTrunc", "slices.overlaps[string]", "slices.overlaps[fanlight/api.Value]"], unfollowed := true, recurses := true, loops := true, apart := false }
def ViewFuelSaid : Prop := viewFuelRow.holds Tryz.pinned (OpenSpec.ofChange viewFuelSpec)

/-- ITS FALSE NEIGHBOUR: 'it returns false'. Refute it at one input. -/
def viewFuelWrong : ChangeSpec := { name := "viewFuel", fn := fun _ => fun
  | [d1, d2, d3] => { results := [.lit (.bool false)], args := [d1, d2, d3] }
  | _ => none }
def ViewFuelWrongFalsely : Prop := viewFuelRow.holds Tryz.pinned (OpenSpec.ofChange viewFuelWrong)

/-- 'fanlightlaw17.ViewWords': WHATEVER THE INPUT: true; the input reads as it did. -/
def viewWordsSpec : ChangeSpec := { name := "viewWords", fn := fun _ => fun
  | [d] => { results := [.lit (.bool true)], args := [d] }
  | _ => none }
def viewWordsRow : OpenClaim := { program := "ytammalmlbabpbaagreat", sum := "2ebf601cc083602b0e10ecf4a32c8f0938fa0d5927a8073b4d3806f911940e66", func := "fanlight/fanlightlaw17.ViewWords", spec := "viewWords", inPlace := ["math.Float64frombits", "math.Float64bits", "math.archFloor", "math.archTrunc", "slices.overlaps[string]", "slices.overlaps[fanlight/api.Value]"], unfollowed := true, recurses := true, apart := false }
def ViewWordsSaid : Prop := viewWordsRow.holds Tryz.pinned (OpenSpec.ofChange viewWordsSpec)

/-- ITS FALSE NEIGHBOUR: 'it returns false'. Refute it at one input. -/
def viewWordsWrong : ChangeSpec := { name := "viewWords", fn := fun _ => fun
  | [d] => { results := [.lit (.bool false)], args := [d] }
  | _ => none }
def ViewWordsWrongFalsely : Prop := viewWordsRow.holds Tryz.pinned (OpenSpec.ofChange viewWordsWrong)

/-- 'fanlightlaw17.ViewOwn': WHATEVER THE INPUT: true; the input reads as it did. -/
def viewOwnSpec : ChangeSpec := { name := "viewOwn", fn := fun _ => fun
  | [d1, d2] => { results := [.lit (.bool true)], args := [d1, d2] }
  | _ => none }
def viewOwnRow : OpenClaim := { program := "ytammalmlbabpbaagreat", sum := "2ebf601cc083602b0e10ecf4a32c8f0938fa0d5927a8073b4d3806f911940e66", func := "fanlight/fanlightlaw17.ViewOwn", spec := "viewOwn", inPlace := ["math.Float64frombits", "math.Float64bits", "math.archFloor", "math.archTrunc", "slices.overlaps[string]", "slices.overlaps[fanlight/api.Value]"], unfollowed := true, recurses := true, loops := true, apart := false }
def ViewOwnSaid : Prop := viewOwnRow.holds Tryz.pinned (OpenSpec.ofChange viewOwnSpec)

/-- ITS FALSE NEIGHBOUR: 'it returns false'. Refute it at one input. -/
def viewOwnWrong : ChangeSpec := { name := "viewOwn", fn := fun _ => fun
  | [d1, d2] => { results := [.lit (.bool false)], args := [d1, d2] }
  | _ => none }
def ViewOwnWrongFalsely : Prop := viewOwnRow.holds Tryz.pinned (OpenSpec.ofChange viewOwnWrong)

/-- 'fanlightlaw19.ModelNew': WHATEVER THE INPUT: true; the input reads as it did. -/
def modelNewSpec : ChangeSpec := { name := "modelNew", fn := fun _ => fun
  | [d1, d2, d3] => { results := [.lit (.bool true)], args := [d1, d2, d3] }
  | _ => none }
def modelNewRow : OpenClaim := { program := "ytammalmlbabpbaagreat", sum := "2ebf601cc083602b0e10ecf4a32c8f0938fa0d5927a8073b4d3806f911940e66", func := "fanlight/fanlightlaw19.ModelNew", spec := "modelNew", inPlace := ["math.Float64frombits", "math.Float64bits", "math.archFloor", "math.archTrunc", "slices.overlaps[string]", "slices.overlaps[fanlight/api.Value]"], unfollowed := true, recurses := true, loops := true, apart := false }
def ModelNewSaid : Prop := modelNewRow.holds Tryz.pinned (OpenSpec.ofChange modelNewSpec)

/-- ITS FALSE NEIGHBOUR: 'it returns false'. Refute it at one input. -/
def modelNewWrong : ChangeSpec := { name := "modelNew", fn := fun _ => fun
  | [d1, d2, d3] => { results := [.lit (.bool false)], args := [d1, d2, d3] }
  | _ => none }
def ModelNewWrongFalsely : Prop := modelNewRow.holds Tryz.pinned (OpenSpec.ofChange modelNewWrong)

/-- 'fanlightlaw19.ModelBatches': WHATEVER THE INPUT: true; the input reads as it did. -/
def modelBatchesSpec : ChangeSpec := { name := "modelBatches", fn := fun _ => fun
  | [d1, d2] => { results := [.lit (.bool true)], args := [d1, d2] }
  | _ => none }
def modelBatchesRow : OpenClaim := { program := "ytammalmlbabpbaagreat", sum := "2ebf601cc083602b0e10ecf4a32c8f0938fa0d5927a8073b4d3806f911940e66", func := "fanlight/fanlightlaw19.ModelBatches", spec := "modelBatches", inPlace := ["math.Float64frombits", "math.Float64bits", "math.archFloor", "math.archTrunc", "slices.overlaps[string]", "slices.overlaps[fanlight/api.Value]"], unfollowed := true, recurses := true, loops := true, apart := false }
def ModelBatchesSaid : Prop := modelBatchesRow.holds Tryz.pinned (OpenSpec.ofChange modelBatchesSpec)

/-- ITS FALSE NEIGHBOUR: 'it returns false'. Refute it at one input. -/
def modelBatchesWrong : ChangeSpec := { name := "modelBatches", fn := fun _ => fun
  | [d1, d2] => { results := [.lit (.bool false)], args := [d1, d2] }
  | _ => none }
def ModelBatchesWrongFalsely : Prop := modelBatchesRow.holds Tryz.pinned (OpenSpec.ofChange modelBatchesWrong)

/-- 'fanlightlaw19.ModelMay': WHATEVER THE INPUT: true; the input reads as it did. -/
def modelMaySpec : ChangeSpec := { name := "modelMay", fn := fun _ => fun
  | [d1, d2] => { results := [.lit (.bool true)], args := [d1, d2] }
  | _ => none }
def modelMayRow : OpenClaim := { program := "ytammalmlbabpbaagreat", sum := "2ebf601cc083602b0e10ecf4a32c8f0938fa0d5927a8073b4d3806f911940e66", func := "fanlight/fanlightlaw19.ModelMay", spec := "modelMay", inPlace := ["math.Float64frombits", "math.Float64bits", "math.archFloor", "math.archTrunc", "slices.overlaps[string]", "slices.overlaps[fanlight/api.Value]"], unfollowed := true, recurses := true, loops := true, apart := false }
def ModelMaySaid : Prop := modelMayRow.holds Tryz.pinned (OpenSpec.ofChange modelMaySpec)

/-- ITS FALSE NEIGHBOUR: 'it returns false'. Refute it at one input. -/
def modelMayWrong : ChangeSpec := { name := "modelMay", fn := fun _ => fun
  | [d1, d2] => { results := [.lit (.bool false)], args := [d1, d2] }
  | _ => none }
def ModelMayWrongFalsely : Prop := modelMayRow.holds Tryz.pinned (OpenSpec.ofChange modelMayWrong)

/- THE SECOND FORM. 'bulk': how many values and letters a reading holds, each counted each time it is reached (what is shared counts as often as it is met; a slice's spare places count too). A statement '..UptoSaid' is the law's where the arguments, and the package variables that the reading takes, are together of bulk at most 1048576: NARROWER than '..Said'. Prove '..Said' where nothing that the law and all that it calls make is longer than what came in: it says more and counts as full. Else prove '..UptoSaid'. A law counts once. -/
mutual
def uptoBulk {H : Type} : DataW H → Nat
  | .lit (.string bytes) => bytes.length + 1
  | .lit _ => 1
  | .nil => 1
  | .ptr d => uptoBulk d + 1
  | .slice elems spare => uptoBulkAll elems + uptoBulkAll spare + 1
  | .agg parts => uptoBulkAll parts + 1
  | .iface _ d => uptoBulk d + 1
  | .map entries => uptoBulkEntries entries + 1
  | .held _ => 1
def uptoBulkAll {H : Type} : List (DataW H) → Nat
  | [] => 0
  | d :: r => uptoBulk d + uptoBulkAll r
def uptoBulkEntries {H : Type} : List (Lit × DataW H) → Nat
  | [] => 0
  | x :: r => uptoBulkEntry x + uptoBulkEntries r
def uptoBulkEntry {H : Type} : Lit × DataW H → Nat
  | (.string bytes, d) => bytes.length + uptoBulk d + 1
  | (_, d) => uptoBulk d + 1
 end
def uptoSmall : (H : Type) → List (DataW H) → Bool := fun _ ds => decide (uptoBulkAll ds ≤ 1048576)
def OpenSpec.upto (s : _root_.Go.ChangeSpec) : _root_.Go.OpenSpec := { _root_.Go.OpenSpec.ofChange s with cond := some uptoSmall }

/-- 'fanlightlaw17.ViewTells', WHERE WHAT IT READS IS OF BULK AT MOST 1048576: true; the input reads as it did. -/
def viewTellsUptoRow : OpenClaim := { program := "ytammalmlbabpbaagreat", sum := "2ebf601cc083602b0e10ecf4a32c8f0938fa0d5927a8073b4d3806f911940e66", func := "fanlight/fanlightlaw17.ViewTells", spec := "viewTells", inPlace := ["math.Float64frombits", "math.Float64bits", "math.archFloor", "math.archTrunc", "slices.overlaps[string]", "slices.overlaps[fanlight/api.Value]"], unfollowed := true, recurses := true, loops := true, apart := false, narrowed := true }
def ViewTellsUptoSaid : Prop := viewTellsUptoRow.holds Tryz.pinned (OpenSpec.upto viewTellsSpec)

/-- 'fanlightlaw17.ViewMay', WHERE WHAT IT READS IS OF BULK AT MOST 1048576: true; the input reads as it did. -/
def viewMayUptoRow : OpenClaim := { program := "ytammalmlbabpbaagreat", sum := "2ebf601cc083602b0e10ecf4a32c8f0938fa0d5927a8073b4d3806f911940e66", func := "fanlight/fanlightlaw17.ViewMay", spec := "viewMay", inPlace := ["math.Float64frombits", "math.Float64bits", "math.archFloor", "math.archTrunc", "slices.overlaps[string]", "slices.overlaps[fanlight/api.Value]"], unfollowed := true, recurses := true, loops := true, apart := false, narrowed := true }
def ViewMayUptoSaid : Prop := viewMayUptoRow.holds Tryz.pinned (OpenSpec.upto viewMaySpec)

/-- 'fanlightlaw17.ViewLists', WHERE WHAT IT READS IS OF BULK AT MOST 1048576: true; the input reads as it did. -/
def viewListsUptoRow : OpenClaim := { program := "ytammalmlbabpbaagreat", sum := "2ebf601cc083602b0e10ecf4a32c8f0938fa0d5927a8073b4d3806f911940e66", func := "fanlight/fanlightlaw17.ViewLists", spec := "viewLists", inPlace := ["math.Float64frombits", "math.Float64bits", "math.archFloor", "math.archTrunc", "slices.overlaps[string]", "slices.overlaps[fanlight/api.Value]"], unfollowed := true, recurses := true, apart := false, narrowed := true }
def ViewListsUptoSaid : Prop := viewListsUptoRow.holds Tryz.pinned (OpenSpec.upto viewListsSpec)

/-- 'fanlightlaw17.ViewFuel', WHERE WHAT IT READS IS OF BULK AT MOST 1048576: true; the input reads as it did. -/
def viewFuelUptoRow : OpenClaim := { program := "ytammalmlbabpbaagreat", sum := "2ebf601cc083602b0e10ecf4a32c8f0938fa0d5927a8073b4d3806f911940e66", func := "fanlight/fanlightlaw17.ViewFuel", spec := "viewFuel", inPlace := ["math.Float64frombits", "math.Float64bits", "math.archFloor", "math.archTrunc", "slices.overlaps[string]", "slices.overlaps[fanlight/api.Value]"], unfollowed := true, recurses := true, loops := true, apart := false, narrowed := true }
def ViewFuelUptoSaid : Prop := viewFuelUptoRow.holds Tryz.pinned (OpenSpec.upto viewFuelSpec)

/-- 'fanlightlaw17.ViewWords', WHERE WHAT IT READS IS OF BULK AT MOST 1048576: true; the input reads as it did. -/
def viewWordsUptoRow : OpenClaim := { program := "ytammalmlbabpbaagreat", sum := "2ebf601cc083602b0e10ecf4a32c8f0938fa0d5927a8073b4d3806f911940e66", func := "fanlight/fanlightlaw17.ViewWords", spec := "viewWords", inPlace := ["math.Float64frombits", "math.Float64bits", "math.archFloor", "math.archTrunc", "slices.overlaps[string]", "slices.overlaps[fanlight/api.Value]"], unfollowed := true, recurses := true, apart := false, narrowed := true }
def ViewWordsUptoSaid : Prop := viewWordsUptoRow.holds Tryz.pinned (OpenSpec.upto viewWordsSpec)

/-- 'fanlightlaw17.ViewOwn', WHERE WHAT IT READS IS OF BULK AT MOST 1048576: true; the input reads as it did. -/
def viewOwnUptoRow : OpenClaim := { program := "ytammalmlbabpbaagreat", sum := "2ebf601cc083602b0e10ecf4a32c8f0938fa0d5927a8073b4d3806f911940e66", func := "fanlight/fanlightlaw17.ViewOwn", spec := "viewOwn", inPlace := ["math.Float64frombits", "math.Float64bits", "math.archFloor", "math.archTrunc", "slices.overlaps[string]", "slices.overlaps[fanlight/api.Value]"], unfollowed := true, recurses := true, loops := true, apart := false, narrowed := true }
def ViewOwnUptoSaid : Prop := viewOwnUptoRow.holds Tryz.pinned (OpenSpec.upto viewOwnSpec)

/-- 'fanlightlaw19.ModelNew', WHERE WHAT IT READS IS OF BULK AT MOST 1048576: true; the input reads as it did. -/
def modelNewUptoRow : OpenClaim := { program := "ytammalmlbabpbaagreat", sum := "2ebf601cc083602b0e10ecf4a32c8f0938fa0d5927a8073b4d3806f911940e66", func := "fanlight/fanlightlaw19.ModelNew", spec := "modelNew", inPlace := ["math.Float64frombits", "math.Float64bits", "math.archFloor", "math.archTrunc", "slices.overlaps[string]", "slices.overlaps[fanlight/api.Value]"], unfollowed := true, recurses := true, loops := true, apart := false, narrowed := true }
def ModelNewUptoSaid : Prop := modelNewUptoRow.holds Tryz.pinned (OpenSpec.upto modelNewSpec)

/-- 'fanlightlaw19.ModelBatches', WHERE WHAT IT READS IS OF BULK AT MOST 1048576: true; the input reads as it did. -/
def modelBatchesUptoRow : OpenClaim := { program := "ytammalmlbabpbaagreat", sum := "2ebf601cc083602b0e10ecf4a32c8f0938fa0d5927a8073b4d3806f911940e66", func := "fanlight/fanlightlaw19.ModelBatches", spec := "modelBatches", inPlace := ["math.Float64frombits", "math.Float64bits", "math.archFloor", "math.archTrunc", "slices.overlaps[string]", "slices.overlaps[fanlight/api.Value]"], unfollowed := true, recurses := true, loops := true, apart := false, narrowed := true }
def ModelBatchesUptoSaid : Prop := modelBatchesUptoRow.holds Tryz.pinned (OpenSpec.upto modelBatchesSpec)

/-- 'fanlightlaw19.ModelMay', WHERE WHAT IT READS IS OF BULK AT MOST 1048576: true; the input reads as it did. -/
def modelMayUptoRow : OpenClaim := { program := "ytammalmlbabpbaagreat", sum := "2ebf601cc083602b0e10ecf4a32c8f0938fa0d5927a8073b4d3806f911940e66", func := "fanlight/fanlightlaw19.ModelMay", spec := "modelMay", inPlace := ["math.Float64frombits", "math.Float64bits", "math.archFloor", "math.archTrunc", "slices.overlaps[string]", "slices.overlaps[fanlight/api.Value]"], unfollowed := true, recurses := true, loops := true, apart := false, narrowed := true }
def ModelMayUptoSaid : Prop := modelMayUptoRow.holds Tryz.pinned (OpenSpec.upto modelMaySpec)

end Rows
end Go.Proofs.YtammalmlbabpbaaGreat
