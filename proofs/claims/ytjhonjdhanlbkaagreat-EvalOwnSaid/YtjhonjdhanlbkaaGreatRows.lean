/-
  NARROWER THAN 'FOR EVERY INPUT', by the rows' own cells (each row's printed sentence says how): EvalTells: loops · EvalMay: loops · EvalFuel: loops · EvalIf: loops · EvalLists: loops · EvalOwn: loops.
  DERIVED. THE GIVEN ROWS OF THIS SEAT. 6 by the template 'for every input the law returns true; each argument reads behind the call as it read before'; 0 by the template 'total and deterministic' (their statements: YtjhonjdhanlbkaaGreatTotals.lean).
  GIVEN WITH THE SEED: the statements are not yours to turn. If you find one false, say at which input.
  Laid BY PROGRAM, IN A SANDBOX (cutbox-rows.mjs): the forced cells as the released guide's own fill.sh prints them over the translation fbbf36d84fa0c70c… (all of the seat's roots in one cut). By AI agents, Wed Nov 11 2026. No macro, syntax, notation, axiom, sorry.
-/
import Derived.Test.YtjhonjdhanlbkaaGreatChecked
import GoSem.Claim
import GoSem.ClaimJoined
import GoSem.ClaimMapViews
import Derived.JoinedTies
import Derived.KernelRfl
namespace Go.Proofs.YtjhonjdhanlbkaaGreat
/- THE CELL 'sum', in the pinned program and in every row, IS THE sha256 OF THE DUMP (.gsa) THAT YtjhonjdhanlbkaaGreatProg.lean LOADS. Nothing in Lean hashes anything: it is a label: what it is worth is what the hold of that sum in a sandbox is worth. -/
noncomputable def Tryz.pinned : Pinned := { name := "ytjhonjdhanlbkaagreat", sum := "fbbf36d84fa0c70cfbf72942b146308c8c3e12e6f4eca6bcbe7a91fe2cf86b18", checked := Tryz.checked }
namespace Rows
def none {H : Type} : Left H := { results := [], args := [] }

/-- 'fanlightlaw15.EvalTells': WHATEVER THE INPUT: true; the input reads as it did. -/
def evalTellsSpec : ChangeSpec := { name := "evalTells", fn := fun _ => fun
  | [d1, d2, d3] => { results := [.lit (.bool true)], args := [d1, d2, d3] }
  | _ => none }
def evalTellsRow : OpenClaim := { program := "ytjhonjdhanlbkaagreat", sum := "fbbf36d84fa0c70cfbf72942b146308c8c3e12e6f4eca6bcbe7a91fe2cf86b18", func := "fanlight/fanlightlaw15.EvalTells", spec := "evalTells", inPlace := ["math.Float64frombits", "math.Float64bits", "math.archFloor", "math.archTrunc", "slices.overlaps[string]", "slices.overlaps[fanlight/api.Value]"], unfollowed := true, recurses := true, loops := true, apart := false }
def EvalTellsSaid : Prop := evalTellsRow.holds Tryz.pinned (OpenSpec.ofChange evalTellsSpec)

/-- ITS FALSE NEIGHBOUR: 'it returns false'. Refute it at one input. -/
def evalTellsWrong : ChangeSpec := { name := "evalTells", fn := fun _ => fun
  | [d1, d2, d3] => { results := [.lit (.bool false)], args := [d1, d2, d3] }
  | _ => none }
def EvalTellsWrongFalsely : Prop := evalTellsRow.holds Tryz.pinned (OpenSpec.ofChange evalTellsWrong)

/-- 'fanlightlaw15.EvalMay': WHATEVER THE INPUT: true; the input reads as it did. -/
def evalMaySpec : ChangeSpec := { name := "evalMay", fn := fun _ => fun
  | [d1, d2, d3] => { results := [.lit (.bool true)], args := [d1, d2, d3] }
  | _ => none }
def evalMayRow : OpenClaim := { program := "ytjhonjdhanlbkaagreat", sum := "fbbf36d84fa0c70cfbf72942b146308c8c3e12e6f4eca6bcbe7a91fe2cf86b18", func := "fanlight/fanlightlaw15.EvalMay", spec := "evalMay", inPlace := ["math.Float64frombits", "math.Float64bits", "math.archFloor", "math.archTrunc", "slices.overlaps[string]", "slices.overlaps[fanlight/api.Value]"], unfollowed := true, recurses := true, loops := true, apart := false }
def EvalMaySaid : Prop := evalMayRow.holds Tryz.pinned (OpenSpec.ofChange evalMaySpec)

/-- ITS FALSE NEIGHBOUR: 'it returns false'. Refute it at one input. -/
def evalMayWrong : ChangeSpec := { name := "evalMay", fn := fun _ => fun
  | [d1, d2, d3] => { results := [.lit (.bool false)], args := [d1, d2, d3] }
  | _ => none }
def EvalMayWrongFalsely : Prop := evalMayRow.holds Tryz.pinned (OpenSpec.ofChange evalMayWrong)

/-- 'fanlightlaw15.EvalFuel': WHATEVER THE INPUT: true; the input reads as it did. -/
def evalFuelSpec : ChangeSpec := { name := "evalFuel", fn := fun _ => fun
  | [d1, d2, d3, d4] => { results := [.lit (.bool true)], args := [d1, d2, d3, d4] }
  | _ => none }
def evalFuelRow : OpenClaim := { program := "ytjhonjdhanlbkaagreat", sum := "fbbf36d84fa0c70cfbf72942b146308c8c3e12e6f4eca6bcbe7a91fe2cf86b18", func := "fanlight/fanlightlaw15.EvalFuel", spec := "evalFuel", inPlace := ["math.Float64frombits", "math.Float64bits", "math.archFloor", "math.archTrunc", "slices.overlaps[string]", "slices.overlaps[fanlight/api.Value]"], unfollowed := true, recurses := true, loops := true, apart := false }
def EvalFuelSaid : Prop := evalFuelRow.holds Tryz.pinned (OpenSpec.ofChange evalFuelSpec)

/-- ITS FALSE NEIGHBOUR: 'it returns false'. Refute it at one input. -/
def evalFuelWrong : ChangeSpec := { name := "evalFuel", fn := fun _ => fun
  | [d1, d2, d3, d4] => { results := [.lit (.bool false)], args := [d1, d2, d3, d4] }
  | _ => none }
def EvalFuelWrongFalsely : Prop := evalFuelRow.holds Tryz.pinned (OpenSpec.ofChange evalFuelWrong)

/-- 'fanlightlaw15.EvalIf': WHATEVER THE INPUT: true; the input reads as it did. -/
def evalIfSpec : ChangeSpec := { name := "evalIf", fn := fun _ => fun
  | [d1, d2, d3, d4] => { results := [.lit (.bool true)], args := [d1, d2, d3, d4] }
  | _ => none }
def evalIfRow : OpenClaim := { program := "ytjhonjdhanlbkaagreat", sum := "fbbf36d84fa0c70cfbf72942b146308c8c3e12e6f4eca6bcbe7a91fe2cf86b18", func := "fanlight/fanlightlaw15.EvalIf", spec := "evalIf", inPlace := ["math.Float64frombits", "math.Float64bits", "math.archFloor", "math.archTrunc", "slices.overlaps[string]", "slices.overlaps[fanlight/api.Value]"], unfollowed := true, recurses := true, loops := true, apart := false }
def EvalIfSaid : Prop := evalIfRow.holds Tryz.pinned (OpenSpec.ofChange evalIfSpec)

/-- ITS FALSE NEIGHBOUR: 'it returns false'. Refute it at one input. -/
def evalIfWrong : ChangeSpec := { name := "evalIf", fn := fun _ => fun
  | [d1, d2, d3, d4] => { results := [.lit (.bool false)], args := [d1, d2, d3, d4] }
  | _ => none }
def EvalIfWrongFalsely : Prop := evalIfRow.holds Tryz.pinned (OpenSpec.ofChange evalIfWrong)

/-- 'fanlightlaw15.EvalLists': WHATEVER THE INPUT: true; the input reads as it did. -/
def evalListsSpec : ChangeSpec := { name := "evalLists", fn := fun _ => fun
  | [d1, d2] => { results := [.lit (.bool true)], args := [d1, d2] }
  | _ => none }
def evalListsRow : OpenClaim := { program := "ytjhonjdhanlbkaagreat", sum := "fbbf36d84fa0c70cfbf72942b146308c8c3e12e6f4eca6bcbe7a91fe2cf86b18", func := "fanlight/fanlightlaw15.EvalLists", spec := "evalLists", inPlace := ["math.Float64frombits", "math.Float64bits", "math.archFloor", "math.archTrunc", "slices.overlaps[string]", "slices.overlaps[fanlight/api.Value]"], unfollowed := true, recurses := true, loops := true, apart := false }
def EvalListsSaid : Prop := evalListsRow.holds Tryz.pinned (OpenSpec.ofChange evalListsSpec)

/-- ITS FALSE NEIGHBOUR: 'it returns false'. Refute it at one input. -/
def evalListsWrong : ChangeSpec := { name := "evalLists", fn := fun _ => fun
  | [d1, d2] => { results := [.lit (.bool false)], args := [d1, d2] }
  | _ => none }
def EvalListsWrongFalsely : Prop := evalListsRow.holds Tryz.pinned (OpenSpec.ofChange evalListsWrong)

/-- 'fanlightlaw15.EvalOwn': WHATEVER THE INPUT: true; the input reads as it did. -/
def evalOwnSpec : ChangeSpec := { name := "evalOwn", fn := fun _ => fun
  | [d1, d2] => { results := [.lit (.bool true)], args := [d1, d2] }
  | _ => none }
def evalOwnRow : OpenClaim := { program := "ytjhonjdhanlbkaagreat", sum := "fbbf36d84fa0c70cfbf72942b146308c8c3e12e6f4eca6bcbe7a91fe2cf86b18", func := "fanlight/fanlightlaw15.EvalOwn", spec := "evalOwn", inPlace := ["math.Float64frombits", "math.Float64bits", "math.archFloor", "math.archTrunc", "slices.overlaps[string]", "slices.overlaps[fanlight/api.Value]"], unfollowed := true, recurses := true, loops := true, apart := false }
def EvalOwnSaid : Prop := evalOwnRow.holds Tryz.pinned (OpenSpec.ofChange evalOwnSpec)

/-- ITS FALSE NEIGHBOUR: 'it returns false'. Refute it at one input. -/
def evalOwnWrong : ChangeSpec := { name := "evalOwn", fn := fun _ => fun
  | [d1, d2] => { results := [.lit (.bool false)], args := [d1, d2] }
  | _ => none }
def EvalOwnWrongFalsely : Prop := evalOwnRow.holds Tryz.pinned (OpenSpec.ofChange evalOwnWrong)

/- THE SECOND FORM. 'bulk': how many values and letters a reading holds, each counted each time it is reached (what is shared counts as often as it is met; a slice's spare places count too). A statement '..UptoSaid' is the law's where the arguments, and the package variables that the reading takes, are together of bulk at most 1048576: NARROWER than '..Said'. Prove '..Said' where nothing that the law and all that it calls make is longer than what came in: it says more and counts as full. Else prove '..UptoSaid'. A law counts once. -/
mutual
def uptoBulk {H : Type} : DataW H → Nat
  | .lit (.string bytes) => bytes.length + 1
  | .lit _ => 1
  | .nil => 1
  | .ptr d => uptoBulk d + 1
  | .slice elems spare => uptoBulkAll elems + uptoBulkAll spare + 1
  | .agg parts => uptoBulkAll parts + 1
  | .iface _ d => uptoBulk d + 1
  | .map entries => uptoBulkEntries entries + 1
  | .held _ => 1
def uptoBulkAll {H : Type} : List (DataW H) → Nat
  | [] => 0
  | d :: r => uptoBulk d + uptoBulkAll r
def uptoBulkEntries {H : Type} : List (Lit × DataW H) → Nat
  | [] => 0
  | x :: r => uptoBulkEntry x + uptoBulkEntries r
def uptoBulkEntry {H : Type} : Lit × DataW H → Nat
  | (.string bytes, d) => bytes.length + uptoBulk d + 1
  | (_, d) => uptoBulk d + 1
 end
def uptoSmall : (H : Type) → List (DataW H) → Bool := fun _ ds => decide (uptoBulkAll ds ≤ 1048576)
def OpenSpec.upto (s : _root_.Go.ChangeSpec) : _root_.Go.OpenSpec := { _root_.Go.OpenSpec.ofChange s with cond := some uptoSmall }

/-- 'fanlightlaw15.EvalTells', WHERE WHAT IT READS IS OF BULK AT MOST 1048576: true; the input reads as it did. -/
def evalTellsUptoRow : OpenClaim := { program := "ytjhonjdhanlbkaagreat", sum := "fbbf36d84fa0c70cfbf72942b146308c8c3e12e6f4eca6bcbe7a91fe2cf86b18", func := "fanlight/fanlightlaw15.EvalTells", spec := "evalTells", inPlace := ["math.Float64frombits", "math.Float64bits", "math.archFloor", "math.archTrunc", "slices.overlaps[string]", "slices.overlaps[fanlight/api.Value]"], unfollowed := true, recurses := true, loops := true, apart := false, narrowed := true }
def EvalTellsUptoSaid : Prop := evalTellsUptoRow.holds Tryz.pinned (OpenSpec.upto evalTellsSpec)

/-- 'fanlightlaw15.EvalMay', WHERE WHAT IT READS IS OF BULK AT MOST 1048576: true; the input reads as it did. -/
def evalMayUptoRow : OpenClaim := { program := "ytjhonjdhanlbkaagreat", sum := "fbbf36d84fa0c70cfbf72942b146308c8c3e12e6f4eca6bcbe7a91fe2cf86b18", func := "fanlight/fanlightlaw15.EvalMay", spec := "evalMay", inPlace := ["math.Float64frombits", "math.Float64bits", "math.archFloor", "math.archTrunc", "slices.overlaps[string]", "slices.overlaps[fanlight/api.Value]"], unfollowed := true, recurses := true, loops := true, apart := false, narrowed := true }
def EvalMayUptoSaid : Prop := evalMayUptoRow.holds Tryz.pinned (OpenSpec.upto evalMaySpec)

/-- 'fanlightlaw15.EvalFuel', WHERE WHAT IT READS IS OF BULK AT MOST 1048576: true; the input reads as it did. -/
def evalFuelUptoRow : OpenClaim := { program := "ytjhonjdhanlbkaagreat", sum := "fbbf36d84fa0c70cfbf72942b146308c8c3e12e6f4eca6bcbe7a91fe2cf86b18", func := "fanlight/fanlightlaw15.EvalFuel", spec := "evalFuel", inPlace := ["math.Float64frombits", "math.Float64bits", "math.archFloor", "math.archTrunc", "slices.overlaps[string]", "slices.overlaps[fanlight/api.Value]"], unfollowed := true, recurses := true, loops := true, apart := false, narrowed := true }
def EvalFuelUptoSaid : Prop := evalFuelUptoRow.holds Tryz.pinned (OpenSpec.upto evalFuelSpec)

/-- 'fanlightlaw15.EvalIf', WHERE WHAT IT READS IS OF BULK AT MOST 1048576: true; the input reads as it did. -/
def evalIfUptoRow : OpenClaim := { program := "ytjhonjdhanlbkaagreat", sum := "fbbf36d84fa0c70cfbf72942b146308c8c3e12e6f4eca6bcbe7a91fe2cf86b18", func := "fanlight/fanlightlaw15.EvalIf", spec := "evalIf", inPlace := ["math.Float64frombits", "math.Float64bits", "math.archFloor", "math.archTrunc", "slices.overlaps[string]", "slices.overlaps[fanlight/api.Value]"], unfollowed := true, recurses := true, loops := true, apart := false, narrowed := true }
def EvalIfUptoSaid : Prop := evalIfUptoRow.holds Tryz.pinned (OpenSpec.upto evalIfSpec)

/-- 'fanlightlaw15.EvalLists', WHERE WHAT IT READS IS OF BULK AT MOST 1048576: true; the input reads as it did. -/
def evalListsUptoRow : OpenClaim := { program := "ytjhonjdhanlbkaagreat", sum := "fbbf36d84fa0c70cfbf72942b146308c8c3e12e6f4eca6bcbe7a91fe2cf86b18", func := "fanlight/fanlightlaw15.EvalLists", spec := "evalLists", inPlace := ["math.Float64frombits", "math.Float64bits", "math.archFloor", "math.archTrunc", "slices.overlaps[string]", "slices.overlaps[fanlight/api.Value]"], unfollowed := true, recurses := true, loops := true, apart := false, narrowed := true }
def EvalListsUptoSaid : Prop := evalListsUptoRow.holds Tryz.pinned (OpenSpec.upto evalListsSpec)

/-- 'fanlightlaw15.EvalOwn', WHERE WHAT IT READS IS OF BULK AT MOST 1048576: true; the input reads as it did. -/
def evalOwnUptoRow : OpenClaim := { program := "ytjhonjdhanlbkaagreat", sum := "fbbf36d84fa0c70cfbf72942b146308c8c3e12e6f4eca6bcbe7a91fe2cf86b18", func := "fanlight/fanlightlaw15.EvalOwn", spec := "evalOwn", inPlace := ["math.Float64frombits", "math.Float64bits", "math.archFloor", "math.archTrunc", "slices.overlaps[string]", "slices.overlaps[fanlight/api.Value]"], unfollowed := true, recurses := true, loops := true, apart := false, narrowed := true }
def EvalOwnUptoSaid : Prop := evalOwnUptoRow.holds Tryz.pinned (OpenSpec.upto evalOwnSpec)

end Rows
end Go.Proofs.YtjhonjdhanlbkaaGreat
