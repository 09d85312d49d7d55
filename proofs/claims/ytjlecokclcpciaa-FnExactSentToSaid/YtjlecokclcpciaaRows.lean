/-
  No cell of these rows narrows 'for every input' (looked for: loops, veiled, ifaces, maps, wideKeys, modest, calm, conditions, laid).
  DERIVED. THE GIVEN ROWS OF THIS SEAT. 3 by the template 'for every input the law returns true; each argument reads behind the call as it read before'; 0 by the template 'total and deterministic' (their statements: YtjlecokclcpciaaTotals.lean).
  GIVEN WITH THE SEED: the statements are not yours to turn. If you find one false, say at which input.
  Laid BY PROGRAM, IN A SANDBOX (cutbox-rows.mjs): the forced cells as the released guide's own fill.sh prints them over the translation 81741a66c1f4173c… (all of the seat's roots in one cut). By AI agents, Wed Nov 11 2026. No macro, syntax, notation, axiom, sorry.
-/
import Derived.Test.YtjlecokclcpciaaChecked
import GoSem.Claim
import GoSem.ClaimJoined
import GoSem.ClaimMapViews
import Derived.JoinedTies
import Derived.KernelRfl
namespace Go.Proofs.Ytjlecokclcpciaa
/- THE CELL 'sum', in the pinned program and in every row, IS THE sha256 OF THE DUMP (.gsa) THAT YtjlecokclcpciaaProg.lean LOADS. Nothing in Lean hashes anything: it is a label: what it is worth is what the hold of that sum in a sandbox is worth. -/
noncomputable def Try.pinned : Pinned := { name := "ytjlecokclcpciaa", sum := "81741a66c1f4173c2def034983793ed445cd115b662df5e82ae42ffee79e9232", checked := Try.checked }
namespace Rows
def none {H : Type} : Left H := { results := [], args := [] }

/-- 'laws.FnExactConfigOK': WHATEVER THE INPUT: true; the input reads as it did. -/
def fnExactConfigOKSpec : ChangeSpec := { name := "fnExactConfigOK", fn := fun _ => fun
  | [d] => { results := [.lit (.bool true)], args := [d] }
  | _ => none }
def fnExactConfigOKRow : OpenClaim := { program := "ytjlecokclcpciaa", sum := "81741a66c1f4173c2def034983793ed445cd115b662df5e82ae42ffee79e9232", func := "loop.example/g00370/laws.FnExactConfigOK", spec := "fnExactConfigOK", apart := false }
def FnExactConfigOKSaid : Prop := fnExactConfigOKRow.holds Try.pinned (OpenSpec.ofChange fnExactConfigOKSpec)

/-- ITS FALSE NEIGHBOUR: 'it returns false'. Refute it at one input. -/
def fnExactConfigOKWrong : ChangeSpec := { name := "fnExactConfigOK", fn := fun _ => fun
  | [d] => { results := [.lit (.bool false)], args := [d] }
  | _ => none }
def FnExactConfigOKWrongFalsely : Prop := fnExactConfigOKRow.holds Try.pinned (OpenSpec.ofChange fnExactConfigOKWrong)

/-- 'laws.FnExactTicksFor': WHATEVER THE INPUT: true; the input reads as it did. -/
def fnExactTicksForSpec : ChangeSpec := { name := "fnExactTicksFor", fn := fun _ => fun
  | [d1, d2, d3, d4] => { results := [.lit (.bool true)], args := [d1, d2, d3, d4] }
  | _ => none }
def fnExactTicksForRow : OpenClaim := { program := "ytjlecokclcpciaa", sum := "81741a66c1f4173c2def034983793ed445cd115b662df5e82ae42ffee79e9232", func := "loop.example/g00370/laws.FnExactTicksFor", spec := "fnExactTicksFor", apart := false }
def FnExactTicksForSaid : Prop := fnExactTicksForRow.holds Try.pinned (OpenSpec.ofChange fnExactTicksForSpec)

/-- ITS FALSE NEIGHBOUR: 'it returns false'. Refute it at one input. -/
def fnExactTicksForWrong : ChangeSpec := { name := "fnExactTicksFor", fn := fun _ => fun
  | [d1, d2, d3, d4] => { results := [.lit (.bool false)], args := [d1, d2, d3, d4] }
  | _ => none }
def FnExactTicksForWrongFalsely : Prop := fnExactTicksForRow.holds Try.pinned (OpenSpec.ofChange fnExactTicksForWrong)

/-- 'laws.FnExactSentTo': WHATEVER THE INPUT: true; the input reads as it did. -/
def fnExactSentToSpec : ChangeSpec := { name := "fnExactSentTo", fn := fun _ => fun
  | [d1, d2] => { results := [.lit (.bool true)], args := [d1, d2] }
  | _ => none }
def fnExactSentToRow : OpenClaim := { program := "ytjlecokclcpciaa", sum := "81741a66c1f4173c2def034983793ed445cd115b662df5e82ae42ffee79e9232", func := "loop.example/g00370/laws.FnExactSentTo", spec := "fnExactSentTo", inPlace := ["internal/abi.NoEscape"], unfollowed := true, recurses := true, apart := false }
def FnExactSentToSaid : Prop := fnExactSentToRow.holds Try.pinned (OpenSpec.ofChange fnExactSentToSpec)

/-- ITS FALSE NEIGHBOUR: 'it returns false'. Refute it at one input. -/
def fnExactSentToWrong : ChangeSpec := { name := "fnExactSentTo", fn := fun _ => fun
  | [d1, d2] => { results := [.lit (.bool false)], args := [d1, d2] }
  | _ => none }
def FnExactSentToWrongFalsely : Prop := fnExactSentToRow.holds Try.pinned (OpenSpec.ofChange fnExactSentToWrong)

/- THE SECOND FORM. 'bulk': how many values and letters a reading holds, each counted each time it is reached (what is shared counts as often as it is met; a slice's spare places count too). A statement '..UptoSaid' is the law's where the arguments, and the package variables that the reading takes, are together of bulk at most 1048576: NARROWER than '..Said'. Prove '..Said' where nothing that the law and all that it calls make is longer than what came in: it says more and counts as full. Else prove '..UptoSaid'. A law counts once. -/
mutual
def uptoBulk {H : Type} : DataW H → Nat
  | .lit (.string bytes) => bytes.length + 1
  | .lit _ => 1
  | .nil => 1
  | .ptr d => uptoBulk d + 1
  | .slice elems spare => uptoBulkAll elems + uptoBulkAll spare + 1
  | .agg parts => uptoBulkAll parts + 1
  | .iface _ d => uptoBulk d + 1
  | .map entries => uptoBulkEntries entries + 1
  | .held _ => 1
def uptoBulkAll {H : Type} : List (DataW H) → Nat
  | [] => 0
  | d :: r => uptoBulk d + uptoBulkAll r
def uptoBulkEntries {H : Type} : List (Lit × DataW H) → Nat
  | [] => 0
  | x :: r => uptoBulkEntry x + uptoBulkEntries r
def uptoBulkEntry {H : Type} : Lit × DataW H → Nat
  | (.string bytes, d) => bytes.length + uptoBulk d + 1
  | (_, d) => uptoBulk d + 1
 end
def uptoSmall : (H : Type) → List (DataW H) → Bool := fun _ ds => decide (uptoBulkAll ds ≤ 1048576)
def OpenSpec.upto (s : _root_.Go.ChangeSpec) : _root_.Go.OpenSpec := { _root_.Go.OpenSpec.ofChange s with cond := some uptoSmall }

/-- 'laws.FnExactConfigOK', WHERE WHAT IT READS IS OF BULK AT MOST 1048576: true; the input reads as it did. -/
def fnExactConfigOKUptoRow : OpenClaim := { program := "ytjlecokclcpciaa", sum := "81741a66c1f4173c2def034983793ed445cd115b662df5e82ae42ffee79e9232", func := "loop.example/g00370/laws.FnExactConfigOK", spec := "fnExactConfigOK", apart := false, narrowed := true }
def FnExactConfigOKUptoSaid : Prop := fnExactConfigOKUptoRow.holds Try.pinned (OpenSpec.upto fnExactConfigOKSpec)

/-- 'laws.FnExactTicksFor', WHERE WHAT IT READS IS OF BULK AT MOST 1048576: true; the input reads as it did. -/
def fnExactTicksForUptoRow : OpenClaim := { program := "ytjlecokclcpciaa", sum := "81741a66c1f4173c2def034983793ed445cd115b662df5e82ae42ffee79e9232", func := "loop.example/g00370/laws.FnExactTicksFor", spec := "fnExactTicksFor", apart := false, narrowed := true }
def FnExactTicksForUptoSaid : Prop := fnExactTicksForUptoRow.holds Try.pinned (OpenSpec.upto fnExactTicksForSpec)

/-- 'laws.FnExactSentTo', WHERE WHAT IT READS IS OF BULK AT MOST 1048576: true; the input reads as it did. -/
def fnExactSentToUptoRow : OpenClaim := { program := "ytjlecokclcpciaa", sum := "81741a66c1f4173c2def034983793ed445cd115b662df5e82ae42ffee79e9232", func := "loop.example/g00370/laws.FnExactSentTo", spec := "fnExactSentTo", inPlace := ["internal/abi.NoEscape"], unfollowed := true, recurses := true, apart := false, narrowed := true }
def FnExactSentToUptoSaid : Prop := fnExactSentToUptoRow.holds Try.pinned (OpenSpec.upto fnExactSentToSpec)

end Rows
end Go.Proofs.Ytjlecokclcpciaa
