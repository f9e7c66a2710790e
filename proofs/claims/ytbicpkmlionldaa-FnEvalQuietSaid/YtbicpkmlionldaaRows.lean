/-
  No cell of these rows narrows 'for every input' (looked for: loops, veiled, ifaces, maps, wideKeys, modest, calm, conditions, laid).
  DERIVED. THE GIVEN ROWS OF THIS SEAT. 3 by the template 'for every input the law returns true; each argument reads behind the call as it read before'; 0 by the template 'total and deterministic' (their statements: YtbicpkmlionldaaTotals.lean).
  GIVEN WITH THE SEED: the statements are not yours to turn. If you find one false, say at which input.
  Laid BY PROGRAM, IN A SANDBOX (cutbox-rows.mjs): the forced cells as the released guide's own fill.sh prints them over the translation e96365e63973a4da… (all of the seat's roots in one cut). By AI agents, Wed Nov 11 2026. No macro, syntax, notation, axiom, sorry.
-/
import Derived.Test.YtbicpkmlionldaaChecked
import GoSem.Claim
import GoSem.ClaimJoined
import GoSem.ClaimMapViews
import Derived.JoinedTies
import Derived.KernelRfl
namespace Go.Proofs.Ytbicpkmlionldaa
/- THE CELL 'sum', in the pinned program and in every row, IS THE sha256 OF THE DUMP (.gsa) THAT YtbicpkmlionldaaProg.lean LOADS. Nothing in Lean hashes anything: it is a label: what it is worth is what the hold of that sum in a sandbox is worth. -/
noncomputable def Try.pinned : Pinned := { name := "ytbicpkmlionldaa", sum := "e96365e63973a4da318428157c88a11fe4786f8caf832dd715a0230f6d0bde45", checked := Try.checked }
namespace Rows
def none {H : Type} : Left H := { results := [], args := [] }

/-- 'laws.FnRunCode': WHATEVER THE INPUT: true; the input reads as it did. -/
def fnRunCodeSpec : ChangeSpec := { name := "fnRunCode", fn := fun _ => fun
  | [d] => { results := [.lit (.bool true)], args := [d] }
  | _ => none }
def fnRunCodeRow : OpenClaim := { program := "ytbicpkmlionldaa", sum := "e96365e63973a4da318428157c88a11fe4786f8caf832dd715a0230f6d0bde45", func := "loop.example/constanttime/laws.FnRunCode", spec := "fnRunCode", unfollowed := true, recurses := true, apart := false }
def FnRunCodeSaid : Prop := fnRunCodeRow.holds Try.pinned (OpenSpec.ofChange fnRunCodeSpec)

/-- ITS FALSE NEIGHBOUR: 'it returns false'. Refute it at one input. -/
def fnRunCodeWrong : ChangeSpec := { name := "fnRunCode", fn := fun _ => fun
  | [d] => { results := [.lit (.bool false)], args := [d] }
  | _ => none }
def FnRunCodeWrongFalsely : Prop := fnRunCodeRow.holds Try.pinned (OpenSpec.ofChange fnRunCodeWrong)

/-- 'laws.FnEvalExpr': WHATEVER THE INPUT: true; the input reads as it did. -/
def fnEvalExprSpec : ChangeSpec := { name := "fnEvalExpr", fn := fun _ => fun
  | [d] => { results := [.lit (.bool true)], args := [d] }
  | _ => none }
def fnEvalExprRow : OpenClaim := { program := "ytbicpkmlionldaa", sum := "e96365e63973a4da318428157c88a11fe4786f8caf832dd715a0230f6d0bde45", func := "loop.example/constanttime/laws.FnEvalExpr", spec := "fnEvalExpr", unfollowed := true, recurses := true, apart := false }
def FnEvalExprSaid : Prop := fnEvalExprRow.holds Try.pinned (OpenSpec.ofChange fnEvalExprSpec)

/-- ITS FALSE NEIGHBOUR: 'it returns false'. Refute it at one input. -/
def fnEvalExprWrong : ChangeSpec := { name := "fnEvalExpr", fn := fun _ => fun
  | [d] => { results := [.lit (.bool false)], args := [d] }
  | _ => none }
def FnEvalExprWrongFalsely : Prop := fnEvalExprRow.holds Try.pinned (OpenSpec.ofChange fnEvalExprWrong)

/-- 'laws.FnEvalQuiet': WHATEVER THE INPUT: true; the input reads as it did. -/
def fnEvalQuietSpec : ChangeSpec := { name := "fnEvalQuiet", fn := fun _ => fun
  | [d1, d2] => { results := [.lit (.bool true)], args := [d1, d2] }
  | _ => none }
def fnEvalQuietRow : OpenClaim := { program := "ytbicpkmlionldaa", sum := "e96365e63973a4da318428157c88a11fe4786f8caf832dd715a0230f6d0bde45", func := "loop.example/constanttime/laws.FnEvalQuiet", spec := "fnEvalQuiet", unfollowed := true, recurses := true, apart := false }
def FnEvalQuietSaid : Prop := fnEvalQuietRow.holds Try.pinned (OpenSpec.ofChange fnEvalQuietSpec)

/-- ITS FALSE NEIGHBOUR: 'it returns false'. Refute it at one input. -/
def fnEvalQuietWrong : ChangeSpec := { name := "fnEvalQuiet", fn := fun _ => fun
  | [d1, d2] => { results := [.lit (.bool false)], args := [d1, d2] }
  | _ => none }
def FnEvalQuietWrongFalsely : Prop := fnEvalQuietRow.holds Try.pinned (OpenSpec.ofChange fnEvalQuietWrong)

/- THE SECOND FORM. 'bulk': how many values and letters a reading holds, each counted each time it is reached (what is shared counts as often as it is met; a slice's spare places count too). A statement '..UptoSaid' is the law's where the arguments, and the package variables that the reading takes, are together of bulk at most 1048576: NARROWER than '..Said'. Prove '..Said' where nothing that the law and all that it calls make is longer than what came in: it says more and counts as full. Else prove '..UptoSaid'. A law counts once. -/
mutual
def uptoBulk {H : Type} : DataW H → Nat
  | .lit (.string bytes) => bytes.length + 1
  | .lit _ => 1
  | .nil => 1
  | .ptr d => uptoBulk d + 1
  | .slice elems spare => uptoBulkAll elems + uptoBulkAll spare + 1
  | .agg parts => uptoBulkAll parts + 1
  | .iface _ d => uptoBulk d + 1
  | .map entries => uptoBulkEntries entries + 1
  | .held _ => 1
def uptoBulkAll {H : Type} : List (DataW H) → Nat
  | [] => 0
  | d :: r => uptoBulk d + uptoBulkAll r
def uptoBulkEntries {H : Type} : List (Lit × DataW H) → Nat
  | [] => 0
  | x :: r => uptoBulkEntry x + uptoBulkEntries r
def uptoBulkEntry {H : Type} : Lit × DataW H → Nat
  | (.string bytes, d) => bytes.length + uptoBulk d + 1
  | (_, d) => uptoBulk d + 1
 end
def uptoSmall : (H : Type) → List (DataW H) → Bool := fun _ ds => decide (uptoBulkAll ds ≤ 1048576)
def OpenSpec.upto (s : _root_.Go.ChangeSpec) : _root_.Go.OpenSpec := { _root_.Go.OpenSpec.ofChange s with cond := some uptoSmall }

/-- 'laws.FnRunCode', WHERE WHAT IT READS IS OF BULK AT MOST 1048576: true; the input reads as it did. -/
def fnRunCodeUptoRow : OpenClaim := { program := "ytbicpkmlionldaa", sum := "e96365e63973a4da318428157c88a11fe4786f8caf832dd715a0230f6d0bde45", func := "loop.example/constanttime/laws.FnRunCode", spec := "fnRunCode", unfollowed := true, recurses := true, apart := false, narrowed := true }
def FnRunCodeUptoSaid : Prop := fnRunCodeUptoRow.holds Try.pinned (OpenSpec.upto fnRunCodeSpec)

/-- 'laws.FnEvalExpr', WHERE WHAT IT READS IS OF BULK AT MOST 1048576: true; the input reads as it did. -/
def fnEvalExprUptoRow : OpenClaim := { program := "ytbicpkmlionldaa", sum := "e96365e63973a4da318428157c88a11fe4786f8caf832dd715a0230f6d0bde45", func := "loop.example/constanttime/laws.FnEvalExpr", spec := "fnEvalExpr", unfollowed := true, recurses := true, apart := false, narrowed := true }
def FnEvalExprUptoSaid : Prop := fnEvalExprUptoRow.holds Try.pinned (OpenSpec.upto fnEvalExprSpec)

/-- 'laws.FnEvalQuiet', WHERE WHAT IT READS IS OF BULK AT MOST 1048576: true; the input reads as it did. -/
def fnEvalQuietUptoRow : OpenClaim := { program := "ytbicpkmlionldaa", sum := "e96365e63973a4da318428157c88a11fe4786f8caf832dd715a0230f6d0bde45", func := "loop.example/constanttime/laws.FnEvalQuiet", spec := "fnEvalQuiet", unfollowed := true, recurses := true, apart := false, narrowed := true }
def FnEvalQuietUptoSaid : Prop := fnEvalQuietUptoRow.holds Try.pinned (OpenSpec.upto fnEvalQuietSpec)

end Rows
end Go.Proofs.Ytbicpkmlionldaa
