/-
  NARROWER THAN 'FOR EVERY INPUT', by the rows' own cells (each row's printed sentence says how): ExprParts: loops · ExprSame: loops · ExprBack: loops · ExprCut: loops · ExprOwn: loops.
  DERIVED. THE GIVEN ROWS OF THIS SEAT. 5 by the template 'for every input the law returns true; each argument reads behind the call as it read before'; 0 by the template 'total and deterministic' (their statements: YtlppnhkjonmniaaTotals.lean).
  GIVEN WITH THE SEED: the statements are not yours to turn. If you find one false, say at which input.
  Laid BY PROGRAM, IN A SANDBOX (cutbox-rows.mjs): the forced cells as the released guide's own fill.sh prints them over the translation 910d84e0aace0eb1… (all of the seat's roots in one cut). By AI agents, Wed Nov 11 2026. No macro, syntax, notation, axiom, sorry.
-/
import Derived.Test.YtlppnhkjonmniaaChecked
import GoSem.Claim
import GoSem.ClaimJoined
import GoSem.ClaimMapViews
import Derived.JoinedTies
import Derived.KernelRfl
namespace Go.Proofs.Ytlppnhkjonmniaa
/- THE CELL 'sum', in the pinned program and in every row, IS THE sha256 OF THE DUMP (.gsa) THAT YtlppnhkjonmniaaProg.lean LOADS. Nothing in Lean hashes anything: it is a label: what it is worth is what the hold of that sum in a sandbox is worth. -/
noncomputable def Try.pinned : Pinned := { name := "ytlppnhkjonmniaa", sum := "910d84e0aace0eb10eb8334d05ac01e797fc0fd5ad719142b3ca1aad1434452e", checked := Try.checked }
namespace Rows
def none {H : Type} : Left H := { results := [], args := [] }

/-- 'fanlightlaw14.ExprParts': WHATEVER THE INPUT: true; the input reads as it did. -/
def exprPartsSpec : ChangeSpec := { name := "exprParts", fn := fun _ => fun
  | [d] => { results := [.lit (.bool true)], args := [d] }
  | _ => none }
def exprPartsRow : OpenClaim := { program := "ytlppnhkjonmniaa", sum := "910d84e0aace0eb10eb8334d05ac01e797fc0fd5ad719142b3ca1aad1434452e", func := "fanlight/fanlightlaw14.ExprParts", spec := "exprParts", inPlace := ["math.Float64frombits", "math.Float64bits"], unfollowed := true, recurses := true, loops := true, apart := false }
def ExprPartsSaid : Prop := exprPartsRow.holds Try.pinned (OpenSpec.ofChange exprPartsSpec)

/-- ITS FALSE NEIGHBOUR: 'it returns false'. Refute it at one input. -/
def exprPartsWrong : ChangeSpec := { name := "exprParts", fn := fun _ => fun
  | [d] => { results := [.lit (.bool false)], args := [d] }
  | _ => none }
def ExprPartsWrongFalsely : Prop := exprPartsRow.holds Try.pinned (OpenSpec.ofChange exprPartsWrong)

/-- 'fanlightlaw14.ExprSame': WHATEVER THE INPUT: true; the input reads as it did. -/
def exprSameSpec : ChangeSpec := { name := "exprSame", fn := fun _ => fun
  | [d1, d2] => { results := [.lit (.bool true)], args := [d1, d2] }
  | _ => none }
def exprSameRow : OpenClaim := { program := "ytlppnhkjonmniaa", sum := "910d84e0aace0eb10eb8334d05ac01e797fc0fd5ad719142b3ca1aad1434452e", func := "fanlight/fanlightlaw14.ExprSame", spec := "exprSame", inPlace := ["math.Float64frombits", "math.Float64bits"], unfollowed := true, recurses := true, loops := true, apart := false }
def ExprSameSaid : Prop := exprSameRow.holds Try.pinned (OpenSpec.ofChange exprSameSpec)

/-- ITS FALSE NEIGHBOUR: 'it returns false'. Refute it at one input. -/
def exprSameWrong : ChangeSpec := { name := "exprSame", fn := fun _ => fun
  | [d1, d2] => { results := [.lit (.bool false)], args := [d1, d2] }
  | _ => none }
def ExprSameWrongFalsely : Prop := exprSameRow.holds Try.pinned (OpenSpec.ofChange exprSameWrong)

/-- 'fanlightlaw14.ExprBack': WHATEVER THE INPUT: true; the input reads as it did. -/
def exprBackSpec : ChangeSpec := { name := "exprBack", fn := fun _ => fun
  | [d1, d2] => { results := [.lit (.bool true)], args := [d1, d2] }
  | _ => none }
def exprBackRow : OpenClaim := { program := "ytlppnhkjonmniaa", sum := "910d84e0aace0eb10eb8334d05ac01e797fc0fd5ad719142b3ca1aad1434452e", func := "fanlight/fanlightlaw14.ExprBack", spec := "exprBack", inPlace := ["math.Float64frombits", "math.Float64bits"], unfollowed := true, recurses := true, loops := true, apart := false }
def ExprBackSaid : Prop := exprBackRow.holds Try.pinned (OpenSpec.ofChange exprBackSpec)

/-- ITS FALSE NEIGHBOUR: 'it returns false'. Refute it at one input. -/
def exprBackWrong : ChangeSpec := { name := "exprBack", fn := fun _ => fun
  | [d1, d2] => { results := [.lit (.bool false)], args := [d1, d2] }
  | _ => none }
def ExprBackWrongFalsely : Prop := exprBackRow.holds Try.pinned (OpenSpec.ofChange exprBackWrong)

/-- 'fanlightlaw14.ExprCut': WHATEVER THE INPUT: true; the input reads as it did. -/
def exprCutSpec : ChangeSpec := { name := "exprCut", fn := fun _ => fun
  | [d1, d2, d3] => { results := [.lit (.bool true)], args := [d1, d2, d3] }
  | _ => none }
def exprCutRow : OpenClaim := { program := "ytlppnhkjonmniaa", sum := "910d84e0aace0eb10eb8334d05ac01e797fc0fd5ad719142b3ca1aad1434452e", func := "fanlight/fanlightlaw14.ExprCut", spec := "exprCut", inPlace := ["math.Float64frombits", "math.Float64bits"], unfollowed := true, recurses := true, loops := true, apart := false }
def ExprCutSaid : Prop := exprCutRow.holds Try.pinned (OpenSpec.ofChange exprCutSpec)

/-- ITS FALSE NEIGHBOUR: 'it returns false'. Refute it at one input. -/
def exprCutWrong : ChangeSpec := { name := "exprCut", fn := fun _ => fun
  | [d1, d2, d3] => { results := [.lit (.bool false)], args := [d1, d2, d3] }
  | _ => none }
def ExprCutWrongFalsely : Prop := exprCutRow.holds Try.pinned (OpenSpec.ofChange exprCutWrong)

/-- 'fanlightlaw14.ExprOwn': WHATEVER THE INPUT: true; the input reads as it did. -/
def exprOwnSpec : ChangeSpec := { name := "exprOwn", fn := fun _ => fun
  | [d] => { results := [.lit (.bool true)], args := [d] }
  | _ => none }
def exprOwnRow : OpenClaim := { program := "ytlppnhkjonmniaa", sum := "910d84e0aace0eb10eb8334d05ac01e797fc0fd5ad719142b3ca1aad1434452e", func := "fanlight/fanlightlaw14.ExprOwn", spec := "exprOwn", inPlace := ["math.Float64frombits", "math.Float64bits"], unfollowed := true, recurses := true, loops := true, apart := false }
def ExprOwnSaid : Prop := exprOwnRow.holds Try.pinned (OpenSpec.ofChange exprOwnSpec)

/-- ITS FALSE NEIGHBOUR: 'it returns false'. Refute it at one input. -/
def exprOwnWrong : ChangeSpec := { name := "exprOwn", fn := fun _ => fun
  | [d] => { results := [.lit (.bool false)], args := [d] }
  | _ => none }
def ExprOwnWrongFalsely : Prop := exprOwnRow.holds Try.pinned (OpenSpec.ofChange exprOwnWrong)

/- THE SECOND FORM. 'bulk': how many values and letters a reading holds, each counted each time it is reached (what is shared counts as often as it is met; a slice's spare places count too). A statement '..UptoSaid' is the law's where the arguments, and the package variables that the reading takes, are together of bulk at most 1048576: NARROWER than '..Said'. Prove '..Said' where nothing that the law and all that it calls make is longer than what came in: it says more and counts as full. Else prove '..UptoSaid'. A law counts once. -/
mutual
def uptoBulk {H : Type} : DataW H → Nat
  | .lit (.string bytes) => bytes.length + 1
  | .lit _ => 1
  | .nil => 1
  | .ptr d => uptoBulk d + 1
  | .slice elems spare => uptoBulkAll elems + uptoBulkAll spare + 1
  | .agg parts => uptoBulkAll parts + 1
  | .iface _ d => uptoBulk d + 1
  | .map entries => uptoBulkEntries entries + 1
  | .held _ => 1
def uptoBulkAll {H : Type} : List (DataW H) → Nat
  | [] => 0
  | d :: r => uptoBulk d + uptoBulkAll r
def uptoBulkEntries {H : Type} : List (Lit × DataW H) → Nat
  | [] => 0
  | x :: r => uptoBulkEntry x + uptoBulkEntries r
def uptoBulkEntry {H : Type} : Lit × DataW H → Nat
  | (.string bytes, d) => bytes.length + uptoBulk d + 1
  | (_, d) => uptoBulk d + 1
 end
def uptoSmall : (H : Type) → List (DataW H) → Bool := fun _ ds => decide (uptoBulkAll ds ≤ 1048576)
def OpenSpec.upto (s : _root_.Go.ChangeSpec) : _root_.Go.OpenSpec := { _root_.Go.OpenSpec.ofChange s with cond := some uptoSmall }

/-- 'fanlightlaw14.ExprParts', WHERE WHAT IT READS IS OF BULK AT MOST 1048576: true; the input reads as it did. -/
def exprPartsUptoRow : OpenClaim := { program := "ytlppnhkjonmniaa", sum := "910d84e0aace0eb10eb8334d05ac01e797fc0fd5ad719142b3ca1aad1434452e", func := "fanlight/fanlightlaw14.ExprParts", spec := "exprParts", inPlace := ["math.Float64frombits", "math.Float64bits"], unfollowed := true, recurses := true, loops := true, apart := false, narrowed := true }
def ExprPartsUptoSaid : Prop := exprPartsUptoRow.holds Try.pinned (OpenSpec.upto exprPartsSpec)

/-- 'fanlightlaw14.ExprSame', WHERE WHAT IT READS IS OF BULK AT MOST 1048576: true; the input reads as it did. -/
def exprSameUptoRow : OpenClaim := { program := "ytlppnhkjonmniaa", sum := "910d84e0aace0eb10eb8334d05ac01e797fc0fd5ad719142b3ca1aad1434452e", func := "fanlight/fanlightlaw14.ExprSame", spec := "exprSame", inPlace := ["math.Float64frombits", "math.Float64bits"], unfollowed := true, recurses := true, loops := true, apart := false, narrowed := true }
def ExprSameUptoSaid : Prop := exprSameUptoRow.holds Try.pinned (OpenSpec.upto exprSameSpec)

/-- 'fanlightlaw14.ExprBack', WHERE WHAT IT READS IS OF BULK AT MOST 1048576: true; the input reads as it did. -/
def exprBackUptoRow : OpenClaim := { program := "ytlppnhkjonmniaa", sum := "910d84e0aace0eb10eb8334d05ac01e797fc0fd5ad719142b3ca1aad1434452e", func := "fanlight/fanlightlaw14.ExprBack", spec := "exprBack", inPlace := ["math.Float64frombits", "math.Float64bits"], unfollowed := true, recurses := true, loops := true, apart := false, narrowed := true }
def ExprBackUptoSaid : Prop := exprBackUptoRow.holds Try.pinned (OpenSpec.upto exprBackSpec)

/-- 'fanlightlaw14.ExprCut', WHERE WHAT IT READS IS OF BULK AT MOST 1048576: true; the input reads as it did. -/
def exprCutUptoRow : OpenClaim := { program := "ytlppnhkjonmniaa", sum := "910d84e0aace0eb10eb8334d05ac01e797fc0fd5ad719142b3ca1aad1434452e", func := "fanlight/fanlightlaw14.ExprCut", spec := "exprCut", inPlace := ["math.Float64frombits", "math.Float64bits"], unfollowed := true, recurses := true, loops := true, apart := false, narrowed := true }
def ExprCutUptoSaid : Prop := exprCutUptoRow.holds Try.pinned (OpenSpec.upto exprCutSpec)

/-- 'fanlightlaw14.ExprOwn', WHERE WHAT IT READS IS OF BULK AT MOST 1048576: true; the input reads as it did. -/
def exprOwnUptoRow : OpenClaim := { program := "ytlppnhkjonmniaa", sum := "910d84e0aace0eb10eb8334d05ac01e797fc0fd5ad719142b3ca1aad1434452e", func := "fanlight/fanlightlaw14.ExprOwn", spec := "exprOwn", inPlace := ["math.Float64frombits", "math.Float64bits"], unfollowed := true, recurses := true, loops := true, apart := false, narrowed := true }
def ExprOwnUptoSaid : Prop := exprOwnUptoRow.holds Try.pinned (OpenSpec.upto exprOwnSpec)

end Rows
end Go.Proofs.Ytlppnhkjonmniaa
