/-
  NARROWER THAN 'FOR EVERY INPUT', by the rows' own cells (each row's printed sentence says how): IfaceEncodes: loops · IfaceShows: loops · IfaceBack: loops · IfaceTexts: loops.
  DERIVED. THE GIVEN ROWS OF THIS SEAT. 6 by the template 'for every input the law returns true; each argument reads behind the call as it read before'; 0 by the template 'total and deterministic' (their statements: YtcncoaabbedhfaaGreatTotals.lean).
  GIVEN WITH THE SEED: the statements are not yours to turn. If you find one false, say at which input.
  Laid BY PROGRAM, IN A SANDBOX (cutbox-rows.mjs): the forced cells as the released guide's own fill.sh prints them over the translation f78188e3f69c6fac… (all of the seat's roots in one cut). By AI agents, Wed Nov 11 2026. No macro, syntax, notation, axiom, sorry.
-/
import Derived.Test.YtcncoaabbedhfaaGreatChecked
import GoSem.Claim
import GoSem.ClaimJoined
import GoSem.ClaimMapViews
import Derived.JoinedTies
import Derived.KernelRfl
namespace Go.Proofs.YtcncoaabbedhfaaGreat
/- THE CELL 'sum', in the pinned program and in every row, IS THE sha256 OF THE DUMP (.gsa) THAT YtcncoaabbedhfaaGreatProg.lean LOADS. Nothing in Lean hashes anything: it is a label: what it is worth is what the hold of that sum in a sandbox is worth. -/
noncomputable def Tryz.pinned : Pinned := { name := "ytcncoaabbedhfaagreat", sum := "f78188e3f69c6fac2d0d9d953f124ac53cb42de054172749dbda6b5f549717a8", checked := Tryz.checked }
namespace Rows
def none {H : Type} : Left H := { results := [], args := [] }

/-- 'pandectlaw16.IfaceEncodes': WHATEVER THE INPUT: true; the input reads as it did. -/
def ifaceEncodesSpec : ChangeSpec := { name := "ifaceEncodes", fn := fun _ => fun
  | [d] => { results := [.lit (.bool true)], args := [d] }
  | _ => none }
def ifaceEncodesRow : OpenClaim := { program := "ytcncoaabbedhfaagreat", sum := "f78188e3f69c6fac2d0d9d953f124ac53cb42de054172749dbda6b5f549717a8", func := "pandect/pandectlaw16.IfaceEncodes", spec := "ifaceEncodes", inPlace := ["internal/bytealg.abigen_runtime_cmpstring", "internal/abi.NoEscape", "internal/bytealg.MakeNoZero"], unfollowed := true, recurses := true, loops := true, apart := false }
def IfaceEncodesSaid : Prop := ifaceEncodesRow.holds Tryz.pinned (OpenSpec.ofChange ifaceEncodesSpec)

/-- ITS FALSE NEIGHBOUR: 'it returns false'. Refute it at one input. -/
def ifaceEncodesWrong : ChangeSpec := { name := "ifaceEncodes", fn := fun _ => fun
  | [d] => { results := [.lit (.bool false)], args := [d] }
  | _ => none }
def IfaceEncodesWrongFalsely : Prop := ifaceEncodesRow.holds Tryz.pinned (OpenSpec.ofChange ifaceEncodesWrong)

/-- 'pandectlaw16.IfaceDecodes': WHATEVER THE INPUT: true; the input reads as it did. -/
def ifaceDecodesSpec : ChangeSpec := { name := "ifaceDecodes", fn := fun _ => fun
  | [d] => { results := [.lit (.bool true)], args := [d] }
  | _ => none }
def ifaceDecodesRow : OpenClaim := { program := "ytcncoaabbedhfaagreat", sum := "f78188e3f69c6fac2d0d9d953f124ac53cb42de054172749dbda6b5f549717a8", func := "pandect/pandectlaw16.IfaceDecodes", spec := "ifaceDecodes", inPlace := ["internal/bytealg.abigen_runtime_cmpstring", "internal/abi.NoEscape", "internal/bytealg.MakeNoZero"], unfollowed := true, recurses := true, apart := false }
def IfaceDecodesSaid : Prop := ifaceDecodesRow.holds Tryz.pinned (OpenSpec.ofChange ifaceDecodesSpec)

/-- ITS FALSE NEIGHBOUR: 'it returns false'. Refute it at one input. -/
def ifaceDecodesWrong : ChangeSpec := { name := "ifaceDecodes", fn := fun _ => fun
  | [d] => { results := [.lit (.bool false)], args := [d] }
  | _ => none }
def IfaceDecodesWrongFalsely : Prop := ifaceDecodesRow.holds Tryz.pinned (OpenSpec.ofChange ifaceDecodesWrong)

/-- 'pandectlaw16.IfaceShows': WHATEVER THE INPUT: true; the input reads as it did. -/
def ifaceShowsSpec : ChangeSpec := { name := "ifaceShows", fn := fun _ => fun
  | [d1, d2] => { results := [.lit (.bool true)], args := [d1, d2] }
  | _ => none }
def ifaceShowsRow : OpenClaim := { program := "ytcncoaabbedhfaagreat", sum := "f78188e3f69c6fac2d0d9d953f124ac53cb42de054172749dbda6b5f549717a8", func := "pandect/pandectlaw16.IfaceShows", spec := "ifaceShows", inPlace := ["internal/bytealg.abigen_runtime_cmpstring", "internal/abi.NoEscape", "internal/bytealg.MakeNoZero"], unfollowed := true, recurses := true, loops := true, apart := false }
def IfaceShowsSaid : Prop := ifaceShowsRow.holds Tryz.pinned (OpenSpec.ofChange ifaceShowsSpec)

/-- ITS FALSE NEIGHBOUR: 'it returns false'. Refute it at one input. -/
def ifaceShowsWrong : ChangeSpec := { name := "ifaceShows", fn := fun _ => fun
  | [d1, d2] => { results := [.lit (.bool false)], args := [d1, d2] }
  | _ => none }
def IfaceShowsWrongFalsely : Prop := ifaceShowsRow.holds Tryz.pinned (OpenSpec.ofChange ifaceShowsWrong)

/-- 'pandectlaw16.IfaceBack': WHATEVER THE INPUT: true; the input reads as it did. -/
def ifaceBackSpec : ChangeSpec := { name := "ifaceBack", fn := fun _ => fun
  | [d] => { results := [.lit (.bool true)], args := [d] }
  | _ => none }
def ifaceBackRow : OpenClaim := { program := "ytcncoaabbedhfaagreat", sum := "f78188e3f69c6fac2d0d9d953f124ac53cb42de054172749dbda6b5f549717a8", func := "pandect/pandectlaw16.IfaceBack", spec := "ifaceBack", inPlace := ["internal/bytealg.abigen_runtime_cmpstring", "internal/abi.NoEscape", "internal/bytealg.MakeNoZero"], unfollowed := true, recurses := true, loops := true, apart := false }
def IfaceBackSaid : Prop := ifaceBackRow.holds Tryz.pinned (OpenSpec.ofChange ifaceBackSpec)

/-- ITS FALSE NEIGHBOUR: 'it returns false'. Refute it at one input. -/
def ifaceBackWrong : ChangeSpec := { name := "ifaceBack", fn := fun _ => fun
  | [d] => { results := [.lit (.bool false)], args := [d] }
  | _ => none }
def IfaceBackWrongFalsely : Prop := ifaceBackRow.holds Tryz.pinned (OpenSpec.ofChange ifaceBackWrong)

/-- 'pandectlaw16.IfaceForms': WHATEVER THE INPUT: true; the input reads as it did. -/
def ifaceFormsSpec : ChangeSpec := { name := "ifaceForms", fn := fun _ => fun
  | [d1, d2] => { results := [.lit (.bool true)], args := [d1, d2] }
  | _ => none }
def ifaceFormsRow : OpenClaim := { program := "ytcncoaabbedhfaagreat", sum := "f78188e3f69c6fac2d0d9d953f124ac53cb42de054172749dbda6b5f549717a8", func := "pandect/pandectlaw16.IfaceForms", spec := "ifaceForms", inPlace := ["internal/bytealg.abigen_runtime_cmpstring", "internal/abi.NoEscape", "internal/bytealg.MakeNoZero"], unfollowed := true, recurses := true, apart := false }
def IfaceFormsSaid : Prop := ifaceFormsRow.holds Tryz.pinned (OpenSpec.ofChange ifaceFormsSpec)

/-- ITS FALSE NEIGHBOUR: 'it returns false'. Refute it at one input. -/
def ifaceFormsWrong : ChangeSpec := { name := "ifaceForms", fn := fun _ => fun
  | [d1, d2] => { results := [.lit (.bool false)], args := [d1, d2] }
  | _ => none }
def IfaceFormsWrongFalsely : Prop := ifaceFormsRow.holds Tryz.pinned (OpenSpec.ofChange ifaceFormsWrong)

/-- 'pandectlaw16.IfaceTexts': WHATEVER THE INPUT: true; the input reads as it did. -/
def ifaceTextsSpec : ChangeSpec := { name := "ifaceTexts", fn := fun _ => fun
  | [d1, d2] => { results := [.lit (.bool true)], args := [d1, d2] }
  | _ => none }
def ifaceTextsRow : OpenClaim := { program := "ytcncoaabbedhfaagreat", sum := "f78188e3f69c6fac2d0d9d953f124ac53cb42de054172749dbda6b5f549717a8", func := "pandect/pandectlaw16.IfaceTexts", spec := "ifaceTexts", inPlace := ["internal/bytealg.abigen_runtime_cmpstring", "internal/abi.NoEscape", "internal/bytealg.MakeNoZero"], unfollowed := true, recurses := true, loops := true, apart := false }
def IfaceTextsSaid : Prop := ifaceTextsRow.holds Tryz.pinned (OpenSpec.ofChange ifaceTextsSpec)

/-- ITS FALSE NEIGHBOUR: 'it returns false'. Refute it at one input. -/
def ifaceTextsWrong : ChangeSpec := { name := "ifaceTexts", fn := fun _ => fun
  | [d1, d2] => { results := [.lit (.bool false)], args := [d1, d2] }
  | _ => none }
def IfaceTextsWrongFalsely : Prop := ifaceTextsRow.holds Tryz.pinned (OpenSpec.ofChange ifaceTextsWrong)

/- THE SECOND FORM. 'bulk': how many values and letters a reading holds, each counted each time it is reached (what is shared counts as often as it is met; a slice's spare places count too). A statement '..UptoSaid' is the law's where the arguments, and the package variables that the reading takes, are together of bulk at most 1048576: NARROWER than '..Said'. Prove '..Said' where nothing that the law and all that it calls make is longer than what came in: it says more and counts as full. Else prove '..UptoSaid'. A law counts once. -/
mutual
def uptoBulk {H : Type} : DataW H → Nat
  | .lit (.string bytes) => bytes.length + 1
  | .lit _ => 1
  | .nil => 1
  | .ptr d => uptoBulk d + 1
  | .slice elems spare => uptoBulkAll elems + uptoBulkAll spare + 1
  | .agg parts => uptoBulkAll parts + 1
  | .iface _ d => uptoBulk d + 1
  | .map entries => uptoBulkEntries entries + 1
  | .held _ => 1
def uptoBulkAll {H : Type} : List (DataW H) → Nat
  | [] => 0
  | d :: r => uptoBulk d + uptoBulkAll r
def uptoBulkEntries {H : Type} : List (Lit × DataW H) → Nat
  | [] => 0
  | x :: r => uptoBulkEntry x + uptoBulkEntries r
def uptoBulkEntry {H : Type} : Lit × DataW H → Nat
  | (.string bytes, d) => bytes.length + uptoBulk d + 1
  | (_, d) => uptoBulk d + 1
 end
def uptoSmall : (H : Type) → List (DataW H) → Bool := fun _ ds => decide (uptoBulkAll ds ≤ 1048576)
def OpenSpec.upto (s : _root_.Go.ChangeSpec) : _root_.Go.OpenSpec := { _root_.Go.OpenSpec.ofChange s with cond := some uptoSmall }

/-- 'pandectlaw16.IfaceEncodes', WHERE WHAT IT READS IS OF BULK AT MOST 1048576: true; the input reads as it did. -/
def ifaceEncodesUptoRow : OpenClaim := { program := "ytcncoaabbedhfaagreat", sum := "f78188e3f69c6fac2d0d9d953f124ac53cb42de054172749dbda6b5f549717a8", func := "pandect/pandectlaw16.IfaceEncodes", spec := "ifaceEncodes", inPlace := ["internal/bytealg.abigen_runtime_cmpstring", "internal/abi.NoEscape", "internal/bytealg.MakeNoZero"], unfollowed := true, recurses := true, loops := true, apart := false, narrowed := true }
def IfaceEncodesUptoSaid : Prop := ifaceEncodesUptoRow.holds Tryz.pinned (OpenSpec.upto ifaceEncodesSpec)

/-- 'pandectlaw16.IfaceDecodes', WHERE WHAT IT READS IS OF BULK AT MOST 1048576: true; the input reads as it did. -/
def ifaceDecodesUptoRow : OpenClaim := { program := "ytcncoaabbedhfaagreat", sum := "f78188e3f69c6fac2d0d9d953f124ac53cb42de054172749dbda6b5f549717a8", func := "pandect/pandectlaw16.IfaceDecodes", spec := "ifaceDecodes", inPlace := ["internal/bytealg.abigen_runtime_cmpstring", "internal/abi.NoEscape", "internal/bytealg.MakeNoZero"], unfollowed := true, recurses := true, apart := false, narrowed := true }
def IfaceDecodesUptoSaid : Prop := ifaceDecodesUptoRow.holds Tryz.pinned (OpenSpec.upto ifaceDecodesSpec)

/-- 'pandectlaw16.IfaceShows', WHERE WHAT IT READS IS OF BULK AT MOST 1048576: true; the input reads as it did. -/
def ifaceShowsUptoRow : OpenClaim := { program := "ytcncoaabbedhfaagreat", sum := "f78188e3f69c6fac2d0d9d953f124ac53cb42de054172749dbda6b5f549717a8", func := "pandect/pandectlaw16.IfaceShows", spec := "ifaceShows", inPlace := ["internal/bytealg.abigen_runtime_cmpstring", "internal/abi.NoEscape", "internal/bytealg.MakeNoZero"], unfollowed := true, recurses := true, loops := true, apart := false, narrowed := true }
def IfaceShowsUptoSaid : Prop := ifaceShowsUptoRow.holds Tryz.pinned (OpenSpec.upto ifaceShowsSpec)

/-- 'pandectlaw16.IfaceBack', WHERE WHAT IT READS IS OF BULK AT MOST 1048576: true; the input reads as it did. -/
def ifaceBackUptoRow : OpenClaim := { program := "ytcncoaabbedhfaagreat", sum := "f78188e3f69c6fac2d0d9d953f124ac53cb42de054172749dbda6b5f549717a8", func := "pandect/pandectlaw16.IfaceBack", spec := "ifaceBack", inPlace := ["internal/bytealg.abigen_runtime_cmpstring", "internal/abi.NoEscape", "internal/bytealg.MakeNoZero"], unfollowed := true, recurses := true, loops := true, apart := false, narrowed := true }
def IfaceBackUptoSaid : Prop := ifaceBackUptoRow.holds Tryz.pinned (OpenSpec.upto ifaceBackSpec)

/-- 'pandectlaw16.IfaceForms', WHERE WHAT IT READS IS OF BULK AT MOST 1048576: true; the input reads as it did. -/
def ifaceFormsUptoRow : OpenClaim := { program := "ytcncoaabbedhfaagreat", sum := "f78188e3f69c6fac2d0d9d953f124ac53cb42de054172749dbda6b5f549717a8", func := "pandect/pandectlaw16.IfaceForms", spec := "ifaceForms", inPlace := ["internal/bytealg.abigen_runtime_cmpstring", "internal/abi.NoEscape", "internal/bytealg.MakeNoZero"], unfollowed := true, recurses := true, apart := false, narrowed := true }
def IfaceFormsUptoSaid : Prop := ifaceFormsUptoRow.holds Tryz.pinned (OpenSpec.upto ifaceFormsSpec)

/-- 'pandectlaw16.IfaceTexts', WHERE WHAT IT READS IS OF BULK AT MOST 1048576: true; the input reads as it did. -/
def ifaceTextsUptoRow : OpenClaim := { program := "ytcncoaabbedhfaagreat", sum := "f78188e3f69c6fac2d0d9d953f124ac53cb42de054172749dbda6b5f549717a8", func := "pandect/pandectlaw16.IfaceTexts", spec := "ifaceTexts", inPlace := ["internal/bytealg.abigen_runtime_cmpstring", "internal/abi.NoEscape", "internal/bytealg.MakeNoZero"], unfollowed := true, recurses := true, loops := true, apart := false, narrowed := true }
def IfaceTextsUptoSaid : Prop := ifaceTextsUptoRow.holds Tryz.pinned (OpenSpec.upto ifaceTextsSpec)

end Rows
end Go.Proofs.YtcncoaabbedhfaaGreat
