/-
  NARROWER THAN 'FOR EVERY INPUT', by the rows' own cells (each row's printed sentence says how): ReduceParts: loops · ReduceMay: loops · ReduceOthers: loops · ReduceNone: loops.
  DERIVED. THE GIVEN ROWS OF THIS SEAT. 4 by the template 'for every input the law returns true; each argument reads behind the call as it read before'; 0 by the template 'total and deterministic' (their statements: YtmccnmahegbmpaaGreatTotals.lean).
  GIVEN WITH THE SEED: the statements are not yours to turn. If you find one false, say at which input.
  Laid BY PROGRAM, IN A SANDBOX (cutbox-rows.mjs): the forced cells as the released guide's own fill.sh prints them over the translation e537f96702a7908f… (all of the seat's roots in one cut). By AI agents, Wed Nov 11 2026. No macro, syntax, notation, axiom, sorry.
-/
import Derived.Test.YtmccnmahegbmpaaGreatChecked
import GoSem.Claim
import GoSem.ClaimJoined
import GoSem.ClaimMapViews
import Derived.JoinedTies
import Derived.KernelRfl
namespace Go.Proofs.YtmccnmahegbmpaaGreat
/- THE CELL 'sum', in the pinned program and in every row, IS THE sha256 OF THE DUMP (.gsa) THAT YtmccnmahegbmpaaGreatProg.lean LOADS. Nothing in Lean hashes anything: it is a label: what it is worth is what the hold of that sum in a sandbox is worth. -/
noncomputable def Tryz.pinned : Pinned := { name := "ytmccnmahegbmpaagreat", sum := "e537f96702a7908f91cdee7381ae80be8c5ed0282cef201599db98cee8738c2a", checked := Tryz.checked }
namespace Rows
def none {H : Type} : Left H := { results := [], args := [] }

/-- 'fanlightlaw16.ReduceParts': WHATEVER THE INPUT: true; the input reads as it did. -/
def reducePartsSpec : ChangeSpec := { name := "reduceParts", fn := fun _ => fun
  | [d1, d2, d3] => { results := [.lit (.bool true)], args := [d1, d2, d3] }
  | _ => none }
def reducePartsRow : OpenClaim := { program := "ytmccnmahegbmpaagreat", sum := "e537f96702a7908f91cdee7381ae80be8c5ed0282cef201599db98cee8738c2a", func := "fanlight/fanlightlaw16.ReduceParts", spec := "reduceParts", inPlace := ["math.Float64frombits", "math.Float64bits", "math.archFloor", "math.archTrunc", "slices.overlaps[string]", "slices.overlaps[fanlight/api.Value]"], unfollowed := true, recurses := true, loops := true, apart := false }
def ReducePartsSaid : Prop := reducePartsRow.holds Tryz.pinned (OpenSpec.ofChange reducePartsSpec)

/-- ITS FALSE NEIGHBOUR: 'it returns false'. Refute it at one input. -/
def reducePartsWrong : ChangeSpec := { name := "reduceParts", fn := fun _ => fun
  | [d1, d2, d3] => { results := [.lit (.bool false)], args := [d1, d2, d3] }
  | _ => none }
def ReducePartsWrongFalsely : Prop := reducePartsRow.holds Tryz.pinned (OpenSpec.ofChange reducePartsWrong)

/-- 'fanlightlaw16.ReduceMay': WHATEVER THE INPUT: true; the input reads as it did. -/
def reduceMaySpec : ChangeSpec := { name := "reduceMay", fn := fun _ => fun
  | [d1, d2, d3] => { results := [.lit (.bool true)], args := [d1, d2, d3] }
  | _ => none }
def reduceMayRow : OpenClaim := { program := "ytmccnmahegbmpaagreat", sum := "e537f96702a7908f91cdee7381ae80be8c5ed0282cef201599db98cee8738c2a", func := "fanlight/fanlightlaw16.ReduceMay", spec := "reduceMay", inPlace := ["math.Float64frombits", "math.Float64bits", "math.archFloor", "math.archTrunc", "slices.overlaps[string]", "slices.overlaps[fanlight/api.Value]"], unfollowed := true, recurses := true, loops := true, apart := false }
def ReduceMaySaid : Prop := reduceMayRow.holds Tryz.pinned (OpenSpec.ofChange reduceMaySpec)

/-- ITS FALSE NEIGHBOUR: 'it returns false'. Refute it at one input. -/
def reduceMayWrong : ChangeSpec := { name := "reduceMay", fn := fun _ => fun
  | [d1, d2, d3] => { results := [.lit (.bool false)], args := [d1, d2, d3] }
  | _ => none }
def ReduceMayWrongFalsely : Prop := reduceMayRow.holds Tryz.pinned (OpenSpec.ofChange reduceMayWrong)

/-- 'fanlightlaw16.ReduceOthers': WHATEVER THE INPUT: true; the input reads as it did. -/
def reduceOthersSpec : ChangeSpec := { name := "reduceOthers", fn := fun _ => fun
  | [d1, d2, d3] => { results := [.lit (.bool true)], args := [d1, d2, d3] }
  | _ => none }
def reduceOthersRow : OpenClaim := { program := "ytmccnmahegbmpaagreat", sum := "e537f96702a7908f91cdee7381ae80be8c5ed0282cef201599db98cee8738c2a", func := "fanlight/fanlightlaw16.ReduceOthers", spec := "reduceOthers", inPlace := ["math.Float64frombits", "math.Float64bits", "math.archFloor", "math.archTrunc", "slices.overlaps[string]", "slices.overlaps[fanlight/api.Value]"], unfollowed := true, recurses := true, loops := true, apart := false }
def ReduceOthersSaid : Prop := reduceOthersRow.holds Tryz.pinned (OpenSpec.ofChange reduceOthersSpec)

/-- ITS FALSE NEIGHBOUR: 'it returns false'. Refute it at one input. -/
def reduceOthersWrong : ChangeSpec := { name := "reduceOthers", fn := fun _ => fun
  | [d1, d2, d3] => { results := [.lit (.bool false)], args := [d1, d2, d3] }
  | _ => none }
def ReduceOthersWrongFalsely : Prop := reduceOthersRow.holds Tryz.pinned (OpenSpec.ofChange reduceOthersWrong)

/-- 'fanlightlaw16.ReduceNone': WHATEVER THE INPUT: true; the input reads as it did. -/
def reduceNoneSpec : ChangeSpec := { name := "reduceNone", fn := fun _ => fun
  | [d1, d2, d3, d4] => { results := [.lit (.bool true)], args := [d1, d2, d3, d4] }
  | _ => none }
def reduceNoneRow : OpenClaim := { program := "ytmccnmahegbmpaagreat", sum := "e537f96702a7908f91cdee7381ae80be8c5ed0282cef201599db98cee8738c2a", func := "fanlight/fanlightlaw16.ReduceNone", spec := "reduceNone", inPlace := ["math.Float64frombits", "math.Float64bits", "math.archFloor", "math.archTrunc", "slices.overlaps[string]", "slices.overlaps[fanlight/api.Value]"], unfollowed := true, recurses := true, loops := true, apart := false }
def ReduceNoneSaid : Prop := reduceNoneRow.holds Tryz.pinned (OpenSpec.ofChange reduceNoneSpec)

/-- ITS FALSE NEIGHBOUR: 'it returns false'. Refute it at one input. -/
def reduceNoneWrong : ChangeSpec := { name := "reduceNone", fn := fun _ => fun
  | [d1, d2, d3, d4] => { results := [.lit (.bool false)], args := [d1, d2, d3, d4] }
  | _ => none }
def ReduceNoneWrongFalsely : Prop := reduceNoneRow.holds Tryz.pinned (OpenSpec.ofChange reduceNoneWrong)

/- THE SECOND FORM. 'bulk': how many values and letters a reading holds, each counted each time it is reached (what is shared counts as often as it is met; a slice's spare places count too). A statement '..UptoSaid' is the law's where the arguments, and the package variables that the reading takes, are together of bulk at most 1048576: NARROWER than '..Said'. Prove '..Said' where nothing that the law and all that it calls make is longer than what came in: it says more and counts as full. Else prove '..UptoSaid'. A law counts once. -/
mutual
def uptoBulk {H : Type} : DataW H → Nat
  | .lit (.string bytes) => bytes.length + 1
  | .lit _ => 1
  | .nil => 1
  | .ptr d => uptoBulk d + 1
  | .slice elems spare => uptoBulkAll elems + uptoBulkAll spare + 1
  | .agg parts => uptoBulkAll parts + 1
  | .iface _ d => uptoBulk d + 1
  | .map entries => uptoBulkEntries entries + 1
  | .held _ => 1
def uptoBulkAll {H : Type} : List (DataW H) → Nat
  | [] => 0
  | d :: r => uptoBulk d + uptoBulkAll r
def uptoBulkEntries {H : Type} : List (Lit × DataW H) → Nat
  | [] => 0
  | x :: r => uptoBulkEntry x + uptoBulkEntries r
def uptoBulkEntry {H : Type} : Lit × DataW H → Nat
  | (.string bytes, d) => bytes.length + uptoBulk d + 1
  | (_, d) => uptoBulk d + 1
 end
def uptoSmall : (H : Type) → List (DataW H) → Bool := fun _ ds => decide (uptoBulkAll ds ≤ 1048576)
def OpenSpec.upto (s : _root_.Go.ChangeSpec) : _root_.Go.OpenSpec := { _root_.Go.OpenSpec.ofChange s with cond := some uptoSmall }

/-- 'fanlightlaw16.ReduceParts', WHERE WHAT IT READS IS OF BULK AT MOST 1048576: true; the input reads as it did. -/
def reducePartsUptoRow : OpenClaim := { program := "ytmccnmahegbmpaagreat", sum := "e537f96702a7908f91cdee7381ae80be8c5ed0282cef201599db98cee8738c2a", func := "fanlight/fanlightlaw16.ReduceParts", spec := "reduceParts", inPlace := ["math.Float64frombits", "math.Float64bits", "math.archFloor", "math.archTrunc", "slices.overlaps[string]", "slices.overlaps[fanlight/api.Value]"], unfollowed := true, recurses := true, loops := true, apart := false, narrowed := true }
def ReducePartsUptoSaid : Prop := reducePartsUptoRow.holds Tryz.pinned (OpenSpec.upto reducePartsSpec)

/-- 'fanlightlaw16.ReduceMay', WHERE WHAT IT READS IS OF BULK AT MOST 1048576: true; the input reads as it did. -/
def reduceMayUptoRow : OpenClaim := { program := "ytmccnmahegbmpaagreat", sum := "e537f96702a7908f91cdee7381ae80be8c5ed0282cef201599db98cee8738c2a", func := "fanlight/fanlightlaw16.ReduceMay", spec := "reduceMay", inPlace := ["math.Float64frombits", "math.Float64bits", "math.archFloor", "math.archTrunc", "slices.overlaps[string]", "slices.overlaps[fanlight/api.Value]"], unfollowed := true, recurses := true, loops := true, apart := false, narrowed := true }
def ReduceMayUptoSaid : Prop := reduceMayUptoRow.holds Tryz.pinned (OpenSpec.upto reduceMaySpec)

/-- 'fanlightlaw16.ReduceOthers', WHERE WHAT IT READS IS OF BULK AT MOST 1048576: true; the input reads as it did. -/
def reduceOthersUptoRow : OpenClaim := { program := "ytmccnmahegbmpaagreat", sum := "e537f96702a7908f91cdee7381ae80be8c5ed0282cef201599db98cee8738c2a", func := "fanlight/fanlightlaw16.ReduceOthers", spec := "reduceOthers", inPlace := ["math.Float64frombits", "math.Float64bits", "math.archFloor", "math.archTrunc", "slices.overlaps[string]", "slices.overlaps[fanlight/api.Value]"], unfollowed := true, recurses := true, loops := true, apart := false, narrowed := true }
def ReduceOthersUptoSaid : Prop := reduceOthersUptoRow.holds Tryz.pinned (OpenSpec.upto reduceOthersSpec)

/-- 'fanlightlaw16.ReduceNone', WHERE WHAT IT READS IS OF BULK AT MOST 1048576: true; the input reads as it did. -/
def reduceNoneUptoRow : OpenClaim := { program := "ytmccnmahegbmpaagreat", sum := "e537f96702a7908f91cdee7381ae80be8c5ed0282cef201599db98cee8738c2a", func := "fanlight/fanlightlaw16.ReduceNone", spec := "reduceNone", inPlace := ["math.Float64frombits", "math.Float64bits", "math.archFloor", "math.archTrunc", "slices.overlaps[string]", "slices.overlaps[fanlight/api.Value]"], unfollowed := true, recurses := true, loops := true, apart := false, narrowed := true }
def ReduceNoneUptoSaid : Prop := reduceNoneUptoRow.holds Tryz.pinned (OpenSpec.upto reduceNoneSpec)

end Rows
end Go.Proofs.YtmccnmahegbmpaaGreat
