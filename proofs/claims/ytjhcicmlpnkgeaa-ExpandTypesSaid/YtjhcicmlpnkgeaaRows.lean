/-
  NARROWER THAN 'FOR EVERY INPUT', by the rows' own cells (each row's printed sentence says how): ExpandResolves: loops · ExpandMore: loops · ExpandClosed: loops · ExpandTwice: loops · ExpandDeclares: loops · ExpandTypes: loops.
  DERIVED. THE GIVEN ROWS OF THIS SEAT. 6 by the template 'for every input the law returns true; each argument reads behind the call as it read before'; 0 by the template 'total and deterministic' (their statements: YtjhcicmlpnkgeaaTotals.lean).
  GIVEN WITH THE SEED: the statements are not yours to turn. If you find one false, say at which input.
  Laid BY PROGRAM, IN A SANDBOX (cutbox-rows.mjs): the forced cells as the released guide's own fill.sh prints them over the translation bf294d177e49176a… (all of the seat's roots in one cut). By AI agents, Wed Nov 11 2026. No macro, syntax, notation, axiom, sorry.
-/
import Derived.Test.YtjhcicmlpnkgeaaChecked
import GoSem.Claim
import GoSem.ClaimJoined
import GoSem.ClaimMapViews
import Derived.JoinedTies
import Derived.KernelRfl
namespace Go.Proofs.Ytjhcicmlpnkgeaa
/- THE CELL 'sum', in the pinned program and in every row, IS THE sha256 OF THE DUMP (.gsa) THAT YtjhcicmlpnkgeaaProg.lean LOADS. Nothing in Lean hashes anything: it is a label: what it is worth is what the hold of that sum in a sandbox is worth. -/
noncomputable def Try.pinned : Pinned := { name := "ytjhcicmlpnkgeaa", sum := "bf294d177e49176acc2af07b40d268f56857446435987257b8d1abf9878b1456", checked := Try.checked }
namespace Rows
def none {H : Type} : Left H := { results := [], args := [] }

/-- 'pandectlaw11.ExpandResolves': WHATEVER THE INPUT: true; the input reads as it did. -/
def expandResolvesSpec : ChangeSpec := { name := "expandResolves", fn := fun _ => fun
  | [d1, d2] => { results := [.lit (.bool true)], args := [d1, d2] }
  | _ => none }
def expandResolvesRow : OpenClaim := { program := "ytjhcicmlpnkgeaa", sum := "bf294d177e49176acc2af07b40d268f56857446435987257b8d1abf9878b1456", func := "pandect/pandectlaw11.ExpandResolves", spec := "expandResolves", inPlace := ["internal/bytealg.abigen_runtime_cmpstring"], unfollowed := true, recurses := true, loops := true, plainKeys := false, apart := false }
def ExpandResolvesSaid : Prop := expandResolvesRow.holds Try.pinned (OpenSpec.ofChange expandResolvesSpec)

/-- ITS FALSE NEIGHBOUR: 'it returns false'. Refute it at one input. -/
def expandResolvesWrong : ChangeSpec := { name := "expandResolves", fn := fun _ => fun
  | [d1, d2] => { results := [.lit (.bool false)], args := [d1, d2] }
  | _ => none }
def ExpandResolvesWrongFalsely : Prop := expandResolvesRow.holds Try.pinned (OpenSpec.ofChange expandResolvesWrong)

/-- 'pandectlaw11.ExpandMore': WHATEVER THE INPUT: true; the input reads as it did. -/
def expandMoreSpec : ChangeSpec := { name := "expandMore", fn := fun _ => fun
  | [d1, d2, d3] => { results := [.lit (.bool true)], args := [d1, d2, d3] }
  | _ => none }
def expandMoreRow : OpenClaim := { program := "ytjhcicmlpnkgeaa", sum := "bf294d177e49176acc2af07b40d268f56857446435987257b8d1abf9878b1456", func := "pandect/pandectlaw11.ExpandMore", spec := "expandMore", inPlace := ["internal/bytealg.abigen_runtime_cmpstring"], unfollowed := true, recurses := true, loops := true, plainKeys := false, apart := false }
def ExpandMoreSaid : Prop := expandMoreRow.holds Try.pinned (OpenSpec.ofChange expandMoreSpec)

/-- ITS FALSE NEIGHBOUR: 'it returns false'. Refute it at one input. -/
def expandMoreWrong : ChangeSpec := { name := "expandMore", fn := fun _ => fun
  | [d1, d2, d3] => { results := [.lit (.bool false)], args := [d1, d2, d3] }
  | _ => none }
def ExpandMoreWrongFalsely : Prop := expandMoreRow.holds Try.pinned (OpenSpec.ofChange expandMoreWrong)

/-- 'pandectlaw11.ExpandClosed': WHATEVER THE INPUT: true; the input reads as it did. -/
def expandClosedSpec : ChangeSpec := { name := "expandClosed", fn := fun _ => fun
  | [d1, d2] => { results := [.lit (.bool true)], args := [d1, d2] }
  | _ => none }
def expandClosedRow : OpenClaim := { program := "ytjhcicmlpnkgeaa", sum := "bf294d177e49176acc2af07b40d268f56857446435987257b8d1abf9878b1456", func := "pandect/pandectlaw11.ExpandClosed", spec := "expandClosed", inPlace := ["internal/bytealg.abigen_runtime_cmpstring"], unfollowed := true, recurses := true, loops := true, plainKeys := false, apart := false }
def ExpandClosedSaid : Prop := expandClosedRow.holds Try.pinned (OpenSpec.ofChange expandClosedSpec)

/-- ITS FALSE NEIGHBOUR: 'it returns false'. Refute it at one input. -/
def expandClosedWrong : ChangeSpec := { name := "expandClosed", fn := fun _ => fun
  | [d1, d2] => { results := [.lit (.bool false)], args := [d1, d2] }
  | _ => none }
def ExpandClosedWrongFalsely : Prop := expandClosedRow.holds Try.pinned (OpenSpec.ofChange expandClosedWrong)

/-- 'pandectlaw11.ExpandTwice': WHATEVER THE INPUT: true; the input reads as it did. -/
def expandTwiceSpec : ChangeSpec := { name := "expandTwice", fn := fun _ => fun
  | [d1, d2, d3] => { results := [.lit (.bool true)], args := [d1, d2, d3] }
  | _ => none }
def expandTwiceRow : OpenClaim := { program := "ytjhcicmlpnkgeaa", sum := "bf294d177e49176acc2af07b40d268f56857446435987257b8d1abf9878b1456", func := "pandect/pandectlaw11.ExpandTwice", spec := "expandTwice", inPlace := ["internal/bytealg.abigen_runtime_cmpstring"], unfollowed := true, recurses := true, loops := true, plainKeys := false, apart := false }
def ExpandTwiceSaid : Prop := expandTwiceRow.holds Try.pinned (OpenSpec.ofChange expandTwiceSpec)

/-- ITS FALSE NEIGHBOUR: 'it returns false'. Refute it at one input. -/
def expandTwiceWrong : ChangeSpec := { name := "expandTwice", fn := fun _ => fun
  | [d1, d2, d3] => { results := [.lit (.bool false)], args := [d1, d2, d3] }
  | _ => none }
def ExpandTwiceWrongFalsely : Prop := expandTwiceRow.holds Try.pinned (OpenSpec.ofChange expandTwiceWrong)

/-- 'pandectlaw11.ExpandDeclares': WHATEVER THE INPUT: true; the input reads as it did. -/
def expandDeclaresSpec : ChangeSpec := { name := "expandDeclares", fn := fun _ => fun
  | [d1, d2, d3] => { results := [.lit (.bool true)], args := [d1, d2, d3] }
  | _ => none }
def expandDeclaresRow : OpenClaim := { program := "ytjhcicmlpnkgeaa", sum := "bf294d177e49176acc2af07b40d268f56857446435987257b8d1abf9878b1456", func := "pandect/pandectlaw11.ExpandDeclares", spec := "expandDeclares", inPlace := ["internal/bytealg.abigen_runtime_cmpstring"], unfollowed := true, recurses := true, loops := true, plainKeys := false, apart := false }
def ExpandDeclaresSaid : Prop := expandDeclaresRow.holds Try.pinned (OpenSpec.ofChange expandDeclaresSpec)

/-- ITS FALSE NEIGHBOUR: 'it returns false'. Refute it at one input. -/
def expandDeclaresWrong : ChangeSpec := { name := "expandDeclares", fn := fun _ => fun
  | [d1, d2, d3] => { results := [.lit (.bool false)], args := [d1, d2, d3] }
  | _ => none }
def ExpandDeclaresWrongFalsely : Prop := expandDeclaresRow.holds Try.pinned (OpenSpec.ofChange expandDeclaresWrong)

/-- 'pandectlaw11.ExpandTypes': WHATEVER THE INPUT: true; the input reads as it did. -/
def expandTypesSpec : ChangeSpec := { name := "expandTypes", fn := fun _ => fun
  | [d1, d2] => { results := [.lit (.bool true)], args := [d1, d2] }
  | _ => none }
def expandTypesRow : OpenClaim := { program := "ytjhcicmlpnkgeaa", sum := "bf294d177e49176acc2af07b40d268f56857446435987257b8d1abf9878b1456", func := "pandect/pandectlaw11.ExpandTypes", spec := "expandTypes", inPlace := ["internal/bytealg.abigen_runtime_cmpstring"], unfollowed := true, recurses := true, loops := true, plainKeys := false, apart := false }
def ExpandTypesSaid : Prop := expandTypesRow.holds Try.pinned (OpenSpec.ofChange expandTypesSpec)

/-- ITS FALSE NEIGHBOUR: 'it returns false'. Refute it at one input. -/
def expandTypesWrong : ChangeSpec := { name := "expandTypes", fn := fun _ => fun
  | [d1, d2] => { results := [.lit (.bool false)], args := [d1, d2] }
  | _ => none }
def ExpandTypesWrongFalsely : Prop := expandTypesRow.holds Try.pinned (OpenSpec.ofChange expandTypesWrong)

/- THE SECOND FORM. 'bulk': how many values and letters a reading holds, each counted each time it is reached (what is shared counts as often as it is met; a slice's spare places count too). A statement '..UptoSaid' is the law's where the arguments, and the package variables that the reading takes, are together of bulk at most 1048576: NARROWER than '..Said'. Prove '..Said' where nothing that the law and all that it calls make is longer than what came in: it says more and counts as full. Else prove '..UptoSaid'. A law counts once. -/
mutual
def uptoBulk {H : Type} : DataW H → Nat
  | .lit (.string bytes) => bytes.length + 1
  | .lit _ => 1
  | .nil => 1
  | .ptr d => uptoBulk d + 1
  | .slice elems spare => uptoBulkAll elems + uptoBulkAll spare + 1
  | .agg parts => uptoBulkAll parts + 1
  | .iface _ d => uptoBulk d + 1
  | .map entries => uptoBulkEntries entries + 1
  | .held _ => 1
def uptoBulkAll {H : Type} : List (DataW H) → Nat
  | [] => 0
  | d :: r => uptoBulk d + uptoBulkAll r
def uptoBulkEntries {H : Type} : List (Lit × DataW H) → Nat
  | [] => 0
  | x :: r => uptoBulkEntry x + uptoBulkEntries r
def uptoBulkEntry {H : Type} : Lit × DataW H → Nat
  | (.string bytes, d) => bytes.length + uptoBulk d + 1
  | (_, d) => uptoBulk d + 1
 end
def uptoSmall : (H : Type) → List (DataW H) → Bool := fun _ ds => decide (uptoBulkAll ds ≤ 1048576)
def OpenSpec.upto (s : _root_.Go.ChangeSpec) : _root_.Go.OpenSpec := { _root_.Go.OpenSpec.ofChange s with cond := some uptoSmall }

/-- 'pandectlaw11.ExpandResolves', WHERE WHAT IT READS IS OF BULK AT MOST 1048576: true; the input reads as it did. -/
def expandResolvesUptoRow : OpenClaim := { program := "ytjhcicmlpnkgeaa", sum := "bf294d177e49176acc2af07b40d268f56857446435987257b8d1abf9878b1456", func := "pandect/pandectlaw11.ExpandResolves", spec := "expandResolves", inPlace := ["internal/bytealg.abigen_runtime_cmpstring"], unfollowed := true, recurses := true, loops := true, plainKeys := false, apart := false, narrowed := true }
def ExpandResolvesUptoSaid : Prop := expandResolvesUptoRow.holds Try.pinned (OpenSpec.upto expandResolvesSpec)

/-- 'pandectlaw11.ExpandMore', WHERE WHAT IT READS IS OF BULK AT MOST 1048576: true; the input reads as it did. -/
def expandMoreUptoRow : OpenClaim := { program := "ytjhcicmlpnkgeaa", sum := "bf294d177e49176acc2af07b40d268f56857446435987257b8d1abf9878b1456", func := "pandect/pandectlaw11.ExpandMore", spec := "expandMore", inPlace := ["internal/bytealg.abigen_runtime_cmpstring"], unfollowed := true, recurses := true, loops := true, plainKeys := false, apart := false, narrowed := true }
def ExpandMoreUptoSaid : Prop := expandMoreUptoRow.holds Try.pinned (OpenSpec.upto expandMoreSpec)

/-- 'pandectlaw11.ExpandClosed', WHERE WHAT IT READS IS OF BULK AT MOST 1048576: true; the input reads as it did. -/
def expandClosedUptoRow : OpenClaim := { program := "ytjhcicmlpnkgeaa", sum := "bf294d177e49176acc2af07b40d268f56857446435987257b8d1abf9878b1456", func := "pandect/pandectlaw11.ExpandClosed", spec := "expandClosed", inPlace := ["internal/bytealg.abigen_runtime_cmpstring"], unfollowed := true, recurses := true, loops := true, plainKeys := false, apart := false, narrowed := true }
def ExpandClosedUptoSaid : Prop := expandClosedUptoRow.holds Try.pinned (OpenSpec.upto expandClosedSpec)

/-- 'pandectlaw11.ExpandTwice', WHERE WHAT IT READS IS OF BULK AT MOST 1048576: true; the input reads as it did. -/
def expandTwiceUptoRow : OpenClaim := { program := "ytjhcicmlpnkgeaa", sum := "bf294d177e49176acc2af07b40d268f56857446435987257b8d1abf9878b1456", func := "pandect/pandectlaw11.ExpandTwice", spec := "expandTwice", inPlace := ["internal/bytealg.abigen_runtime_cmpstring"], unfollowed := true, recurses := true, loops := true, plainKeys := false, apart := false, narrowed := true }
def ExpandTwiceUptoSaid : Prop := expandTwiceUptoRow.holds Try.pinned (OpenSpec.upto expandTwiceSpec)

/-- 'pandectlaw11.ExpandDeclares', WHERE WHAT IT READS IS OF BULK AT MOST 1048576: true; the input reads as it did. -/
def expandDeclaresUptoRow : OpenClaim := { program := "ytjhcicmlpnkgeaa", sum := "bf294d177e49176acc2af07b40d268f56857446435987257b8d1abf9878b1456", func := "pandect/pandectlaw11.ExpandDeclares", spec := "expandDeclares", inPlace := ["internal/bytealg.abigen_runtime_cmpstring"], unfollowed := true, recurses := true, loops := true, plainKeys := false, apart := false, narrowed := true }
def ExpandDeclaresUptoSaid : Prop := expandDeclaresUptoRow.holds Try.pinned (OpenSpec.upto expandDeclaresSpec)

/-- 'pandectlaw11.ExpandTypes', WHERE WHAT IT READS IS OF BULK AT MOST 1048576: true; the input reads as it did. -/
def expandTypesUptoRow : OpenClaim := { program := "ytjhcicmlpnkgeaa", sum := "bf294d177e49176acc2af07b40d268f56857446435987257b8d1abf9878b1456", func := "pandect/pandectlaw11.ExpandTypes", spec := "expandTypes", inPlace := ["internal/bytealg.abigen_runtime_cmpstring"], unfollowed := true, recurses := true, loops := true, plainKeys := false, apart := false, narrowed := true }
def ExpandTypesUptoSaid : Prop := expandTypesUptoRow.holds Try.pinned (OpenSpec.upto expandTypesSpec)

end Rows
end Go.Proofs.Ytjhcicmlpnkgeaa
