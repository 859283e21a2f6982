/-
  NARROWER THAN 'FOR EVERY INPUT', by the rows' own cells (each row's printed sentence says how): GradualNears: loops · GradualBetweens: loops · SubtypeBelows: loops · SubtypeJoins: loops · SubtypeMeets: loops · ShapeSames: loops · IfaceEncodes: loops · IfaceShows: loops · IfaceBack: loops · IfaceTexts: loops.
  DERIVED. THE GIVEN ROWS OF THIS SEAT. 12 by the template 'for every input the law returns true; each argument reads behind the call as it read before'; 0 by the template 'total and deterministic' (their statements: YteehllhldaopjaaGreatTotals.lean).
  GIVEN WITH THE SEED: the statements are not yours to turn. If you find one false, say at which input.
  Laid BY PROGRAM, IN A SANDBOX (cutbox-rows.mjs): the forced cells as the released guide's own fill.sh prints them over the translation 5956148ebdb1668c… (all of the seat's roots in one cut). By AI agents, Wed Nov 11 2026. No macro, syntax, notation, axiom, sorry.
-/
import Derived.Test.YteehllhldaopjaaGreatChecked
import GoSem.Claim
import GoSem.ClaimJoined
import GoSem.ClaimMapViews
import Derived.JoinedTies
import Derived.KernelRfl
namespace Go.Proofs.YteehllhldaopjaaGreat
/- THE CELL 'sum', in the pinned program and in every row, IS THE sha256 OF THE DUMP (.gsa) THAT YteehllhldaopjaaGreatProg.lean LOADS. Nothing in Lean hashes anything: it is a label: what it is worth is what the hold of that sum in a sandbox is worth. -/
noncomputable def Tryz.pinned : Pinned := { name := "yteehllhldaopjaagreat", sum := "5956148ebdb1668c24c0240e116fb5b47e8ff7bb9927fa09663a413b4fb81f8b", checked := Tryz.checked }
namespace Rows
def none {H : Type} : Left H := { results := [], args := [] }

/-- 'pandectlaw13.GradualNears': WHATEVER THE INPUT: true; the input reads as it did. -/
def gradualNearsSpec : ChangeSpec := { name := "gradualNears", fn := fun _ => fun
  | [d1, d2] => { results := [.lit (.bool true)], args := [d1, d2] }
  | _ => none }
def gradualNearsRow : OpenClaim := { program := "yteehllhldaopjaagreat", sum := "5956148ebdb1668c24c0240e116fb5b47e8ff7bb9927fa09663a413b4fb81f8b", func := "pandect/pandectlaw13.GradualNears", spec := "gradualNears", inPlace := ["internal/bytealg.abigen_runtime_cmpstring"], unfollowed := true, recurses := true, loops := true, apart := false }
def GradualNearsSaid : Prop := gradualNearsRow.holds Tryz.pinned (OpenSpec.ofChange gradualNearsSpec)

/-- ITS FALSE NEIGHBOUR: 'it returns false'. Refute it at one input. -/
def gradualNearsWrong : ChangeSpec := { name := "gradualNears", fn := fun _ => fun
  | [d1, d2] => { results := [.lit (.bool false)], args := [d1, d2] }
  | _ => none }
def GradualNearsWrongFalsely : Prop := gradualNearsRow.holds Tryz.pinned (OpenSpec.ofChange gradualNearsWrong)

/-- 'pandectlaw13.GradualBetweens': WHATEVER THE INPUT: true; the input reads as it did. -/
def gradualBetweensSpec : ChangeSpec := { name := "gradualBetweens", fn := fun _ => fun
  | [d1, d2] => { results := [.lit (.bool true)], args := [d1, d2] }
  | _ => none }
def gradualBetweensRow : OpenClaim := { program := "yteehllhldaopjaagreat", sum := "5956148ebdb1668c24c0240e116fb5b47e8ff7bb9927fa09663a413b4fb81f8b", func := "pandect/pandectlaw13.GradualBetweens", spec := "gradualBetweens", inPlace := ["internal/bytealg.abigen_runtime_cmpstring"], unfollowed := true, recurses := true, loops := true, apart := false }
def GradualBetweensSaid : Prop := gradualBetweensRow.holds Tryz.pinned (OpenSpec.ofChange gradualBetweensSpec)

/-- ITS FALSE NEIGHBOUR: 'it returns false'. Refute it at one input. -/
def gradualBetweensWrong : ChangeSpec := { name := "gradualBetweens", fn := fun _ => fun
  | [d1, d2] => { results := [.lit (.bool false)], args := [d1, d2] }
  | _ => none }
def GradualBetweensWrongFalsely : Prop := gradualBetweensRow.holds Tryz.pinned (OpenSpec.ofChange gradualBetweensWrong)

/-- 'pandectlaw12.SubtypeBelows': WHATEVER THE INPUT: true; the input reads as it did. -/
def subtypeBelowsSpec : ChangeSpec := { name := "subtypeBelows", fn := fun _ => fun
  | [d1, d2] => { results := [.lit (.bool true)], args := [d1, d2] }
  | _ => none }
def subtypeBelowsRow : OpenClaim := { program := "yteehllhldaopjaagreat", sum := "5956148ebdb1668c24c0240e116fb5b47e8ff7bb9927fa09663a413b4fb81f8b", func := "pandect/pandectlaw12.SubtypeBelows", spec := "subtypeBelows", inPlace := ["maps.clone", "internal/bytealg.abigen_runtime_cmpstring"], unfollowed := true, recurses := true, loops := true, apart := false }
def SubtypeBelowsSaid : Prop := subtypeBelowsRow.holds Tryz.pinned (OpenSpec.ofChange subtypeBelowsSpec)

/-- ITS FALSE NEIGHBOUR: 'it returns false'. Refute it at one input. -/
def subtypeBelowsWrong : ChangeSpec := { name := "subtypeBelows", fn := fun _ => fun
  | [d1, d2] => { results := [.lit (.bool false)], args := [d1, d2] }
  | _ => none }
def SubtypeBelowsWrongFalsely : Prop := subtypeBelowsRow.holds Tryz.pinned (OpenSpec.ofChange subtypeBelowsWrong)

/-- 'pandectlaw12.SubtypeJoins': WHATEVER THE INPUT: true; the input reads as it did. -/
def subtypeJoinsSpec : ChangeSpec := { name := "subtypeJoins", fn := fun _ => fun
  | [d1, d2] => { results := [.lit (.bool true)], args := [d1, d2] }
  | _ => none }
def subtypeJoinsRow : OpenClaim := { program := "yteehllhldaopjaagreat", sum := "5956148ebdb1668c24c0240e116fb5b47e8ff7bb9927fa09663a413b4fb81f8b", func := "pandect/pandectlaw12.SubtypeJoins", spec := "subtypeJoins", inPlace := ["maps.clone", "internal/bytealg.abigen_runtime_cmpstring"], unfollowed := true, recurses := true, loops := true, apart := false }
def SubtypeJoinsSaid : Prop := subtypeJoinsRow.holds Tryz.pinned (OpenSpec.ofChange subtypeJoinsSpec)

/-- ITS FALSE NEIGHBOUR: 'it returns false'. Refute it at one input. -/
def subtypeJoinsWrong : ChangeSpec := { name := "subtypeJoins", fn := fun _ => fun
  | [d1, d2] => { results := [.lit (.bool false)], args := [d1, d2] }
  | _ => none }
def SubtypeJoinsWrongFalsely : Prop := subtypeJoinsRow.holds Tryz.pinned (OpenSpec.ofChange subtypeJoinsWrong)

/-- 'pandectlaw12.SubtypeMeets': WHATEVER THE INPUT: true; the input reads as it did. -/
def subtypeMeetsSpec : ChangeSpec := { name := "subtypeMeets", fn := fun _ => fun
  | [d1, d2] => { results := [.lit (.bool true)], args := [d1, d2] }
  | _ => none }
def subtypeMeetsRow : OpenClaim := { program := "yteehllhldaopjaagreat", sum := "5956148ebdb1668c24c0240e116fb5b47e8ff7bb9927fa09663a413b4fb81f8b", func := "pandect/pandectlaw12.SubtypeMeets", spec := "subtypeMeets", inPlace := ["maps.clone", "internal/bytealg.abigen_runtime_cmpstring"], unfollowed := true, recurses := true, loops := true, apart := false }
def SubtypeMeetsSaid : Prop := subtypeMeetsRow.holds Tryz.pinned (OpenSpec.ofChange subtypeMeetsSpec)

/-- ITS FALSE NEIGHBOUR: 'it returns false'. Refute it at one input. -/
def subtypeMeetsWrong : ChangeSpec := { name := "subtypeMeets", fn := fun _ => fun
  | [d1, d2] => { results := [.lit (.bool false)], args := [d1, d2] }
  | _ => none }
def SubtypeMeetsWrongFalsely : Prop := subtypeMeetsRow.holds Tryz.pinned (OpenSpec.ofChange subtypeMeetsWrong)

/-- 'pandectlaw07.ShapeSames': WHATEVER THE INPUT: true; the input reads as it did. -/
def shapeSamesSpec : ChangeSpec := { name := "shapeSames", fn := fun _ => fun
  | [d1, d2] => { results := [.lit (.bool true)], args := [d1, d2] }
  | _ => none }
def shapeSamesRow : OpenClaim := { program := "yteehllhldaopjaagreat", sum := "5956148ebdb1668c24c0240e116fb5b47e8ff7bb9927fa09663a413b4fb81f8b", func := "pandect/pandectlaw07.ShapeSames", spec := "shapeSames", inPlace := ["internal/bytealg.abigen_runtime_cmpstring", "internal/abi.NoEscape", "internal/bytealg.MakeNoZero"], unfollowed := true, recurses := true, loops := true, apart := false }
def ShapeSamesSaid : Prop := shapeSamesRow.holds Tryz.pinned (OpenSpec.ofChange shapeSamesSpec)

/-- ITS FALSE NEIGHBOUR: 'it returns false'. Refute it at one input. -/
def shapeSamesWrong : ChangeSpec := { name := "shapeSames", fn := fun _ => fun
  | [d1, d2] => { results := [.lit (.bool false)], args := [d1, d2] }
  | _ => none }
def ShapeSamesWrongFalsely : Prop := shapeSamesRow.holds Tryz.pinned (OpenSpec.ofChange shapeSamesWrong)

/-- 'pandectlaw16.IfaceEncodes': WHATEVER THE INPUT: true; the input reads as it did. -/
def ifaceEncodesSpec : ChangeSpec := { name := "ifaceEncodes", fn := fun _ => fun
  | [d] => { results := [.lit (.bool true)], args := [d] }
  | _ => none }
def ifaceEncodesRow : OpenClaim := { program := "yteehllhldaopjaagreat", sum := "5956148ebdb1668c24c0240e116fb5b47e8ff7bb9927fa09663a413b4fb81f8b", func := "pandect/pandectlaw16.IfaceEncodes", spec := "ifaceEncodes", inPlace := ["internal/bytealg.abigen_runtime_cmpstring", "internal/abi.NoEscape", "internal/bytealg.MakeNoZero"], unfollowed := true, recurses := true, loops := true, apart := false }
def IfaceEncodesSaid : Prop := ifaceEncodesRow.holds Tryz.pinned (OpenSpec.ofChange ifaceEncodesSpec)

/-- ITS FALSE NEIGHBOUR: 'it returns false'. Refute it at one input. -/
def ifaceEncodesWrong : ChangeSpec := { name := "ifaceEncodes", fn := fun _ => fun
  | [d] => { results := [.lit (.bool false)], args := [d] }
  | _ => none }
def IfaceEncodesWrongFalsely : Prop := ifaceEncodesRow.holds Tryz.pinned (OpenSpec.ofChange ifaceEncodesWrong)

/-- 'pandectlaw16.IfaceDecodes': WHATEVER THE INPUT: true; the input reads as it did. -/
def ifaceDecodesSpec : ChangeSpec := { name := "ifaceDecodes", fn := fun _ => fun
  | [d] => { results := [.lit (.bool true)], args := [d] }
  | _ => none }
def ifaceDecodesRow : OpenClaim := { program := "yteehllhldaopjaagreat", sum := "5956148ebdb1668c24c0240e116fb5b47e8ff7bb9927fa09663a413b4fb81f8b", func := "pandect/pandectlaw16.IfaceDecodes", spec := "ifaceDecodes", inPlace := ["internal/bytealg.abigen_runtime_cmpstring", "internal/abi.NoEscape", "internal/bytealg.MakeNoZero"], unfollowed := true, recurses := true, apart := false }
def IfaceDecodesSaid : Prop := ifaceDecodesRow.holds Tryz.pinned (OpenSpec.ofChange ifaceDecodesSpec)

/-- ITS FALSE NEIGHBOUR: 'it returns false'. Refute it at one input. -/
def ifaceDecodesWrong : ChangeSpec := { name := "ifaceDecodes", fn := fun _ => fun
  | [d] => { results := [.lit (.bool false)], args := [d] }
  | _ => none }
def IfaceDecodesWrongFalsely : Prop := ifaceDecodesRow.holds Tryz.pinned (OpenSpec.ofChange ifaceDecodesWrong)

/-- 'pandectlaw16.IfaceShows': WHATEVER THE INPUT: true; the input reads as it did. -/
def ifaceShowsSpec : ChangeSpec := { name := "ifaceShows", fn := fun _ => fun
  | [d1, d2] => { results := [.lit (.bool true)], args := [d1, d2] }
  | _ => none }
def ifaceShowsRow : OpenClaim := { program := "yteehllhldaopjaagreat", sum := "5956148ebdb1668c24c0240e116fb5b47e8ff7bb9927fa09663a413b4fb81f8b", func := "pandect/pandectlaw16.IfaceShows", spec := "ifaceShows", inPlace := ["internal/bytealg.abigen_runtime_cmpstring", "internal/abi.NoEscape", "internal/bytealg.MakeNoZero"], unfollowed := true, recurses := true, loops := true, apart := false }
def IfaceShowsSaid : Prop := ifaceShowsRow.holds Tryz.pinned (OpenSpec.ofChange ifaceShowsSpec)

/-- ITS FALSE NEIGHBOUR: 'it returns false'. Refute it at one input. -/
def ifaceShowsWrong : ChangeSpec := { name := "ifaceShows", fn := fun _ => fun
  | [d1, d2] => { results := [.lit (.bool false)], args := [d1, d2] }
  | _ => none }
def IfaceShowsWrongFalsely : Prop := ifaceShowsRow.holds Tryz.pinned (OpenSpec.ofChange ifaceShowsWrong)

/-- 'pandectlaw16.IfaceBack': WHATEVER THE INPUT: true; the input reads as it did. -/
def ifaceBackSpec : ChangeSpec := { name := "ifaceBack", fn := fun _ => fun
  | [d] => { results := [.lit (.bool true)], args := [d] }
  | _ => none }
def ifaceBackRow : OpenClaim := { program := "yteehllhldaopjaagreat", sum := "5956148ebdb1668c24c0240e116fb5b47e8ff7bb9927fa09663a413b4fb81f8b", func := "pandect/pandectlaw16.IfaceBack", spec := "ifaceBack", inPlace := ["internal/bytealg.abigen_runtime_cmpstring", "internal/abi.NoEscape", "internal/bytealg.MakeNoZero"], unfollowed := true, recurses := true, loops := true, apart := false }
def IfaceBackSaid : Prop := ifaceBackRow.holds Tryz.pinned (OpenSpec.ofChange ifaceBackSpec)

/-- ITS FALSE NEIGHBOUR: 'it returns false'. Refute it at one input. -/
def ifaceBackWrong : ChangeSpec := { name := "ifaceBack", fn := fun _ => fun
  | [d] => { results := [.lit (.bool false)], args := [d] }
  | _ => none }
def IfaceBackWrongFalsely : Prop := ifaceBackRow.holds Tryz.pinned (OpenSpec.ofChange ifaceBackWrong)

/-- 'pandectlaw16.IfaceForms': WHATEVER THE INPUT: true; the input reads as it did. -/
def ifaceFormsSpec : ChangeSpec := { name := "ifaceForms", fn := fun _ => fun
  | [d1, d2] => { results := [.lit (.bool true)], args := [d1, d2] }
  | _ => none }
def ifaceFormsRow : OpenClaim := { program := "yteehllhldaopjaagreat", sum := "5956148ebdb1668c24c0240e116fb5b47e8ff7bb9927fa09663a413b4fb81f8b", func := "pandect/pandectlaw16.IfaceForms", spec := "ifaceForms", inPlace := ["internal/bytealg.abigen_runtime_cmpstring", "internal/abi.NoEscape", "internal/bytealg.MakeNoZero"], unfollowed := true, recurses := true, apart := false }
def IfaceFormsSaid : Prop := ifaceFormsRow.holds Tryz.pinned (OpenSpec.ofChange ifaceFormsSpec)

/-- ITS FALSE NEIGHBOUR: 'it returns false'. Refute it at one input. -/
def ifaceFormsWrong : ChangeSpec := { name := "ifaceForms", fn := fun _ => fun
  | [d1, d2] => { results := [.lit (.bool false)], args := [d1, d2] }
  | _ => none }
def IfaceFormsWrongFalsely : Prop := ifaceFormsRow.holds Tryz.pinned (OpenSpec.ofChange ifaceFormsWrong)

/-- 'pandectlaw16.IfaceTexts': WHATEVER THE INPUT: true; the input reads as it did. -/
def ifaceTextsSpec : ChangeSpec := { name := "ifaceTexts", fn := fun _ => fun
  | [d1, d2] => { results := [.lit (.bool true)], args := [d1, d2] }
  | _ => none }
def ifaceTextsRow : OpenClaim := { program := "yteehllhldaopjaagreat", sum := "5956148ebdb1668c24c0240e116fb5b47e8ff7bb9927fa09663a413b4fb81f8b", func := "pandect/pandectlaw16.IfaceTexts", spec := "ifaceTexts", inPlace := ["internal/bytealg.abigen_runtime_cmpstring", "internal/abi.NoEscape", "internal/bytealg.MakeNoZero"], unfollowed := true, recurses := true, loops := true, apart := false }
def IfaceTextsSaid : Prop := ifaceTextsRow.holds Tryz.pinned (OpenSpec.ofChange ifaceTextsSpec)

/-- ITS FALSE NEIGHBOUR: 'it returns false'. Refute it at one input. -/
def ifaceTextsWrong : ChangeSpec := { name := "ifaceTexts", fn := fun _ => fun
  | [d1, d2] => { results := [.lit (.bool false)], args := [d1, d2] }
  | _ => none }
def IfaceTextsWrongFalsely : Prop := ifaceTextsRow.holds Tryz.pinned (OpenSpec.ofChange ifaceTextsWrong)

/- THE SECOND FORM. 'bulk': how many values and letters a reading holds, each counted each time it is reached (what is shared counts as often as it is met; a slice's spare places count too). A statement '..UptoSaid' is the law's where the arguments, and the package variables that the reading takes, are together of bulk at most 1048576: NARROWER than '..Said'. Prove '..Said' where nothing that the law and all that it calls make is longer than what came in: it says more and counts as full. Else prove '..UptoSaid'. A law counts once. -/
mutual
def uptoBulk {H : Type} : DataW H → Nat
  | .lit (.string bytes) => bytes.length + 1
  | .lit _ => 1
  | .nil => 1
  | .ptr d => uptoBulk d + 1
  | .slice elems spare => uptoBulkAll elems + uptoBulkAll spare + 1
  | .agg parts => uptoBulkAll parts + 1
  | .iface _ d => uptoBulk d + 1
  | .map entries => uptoBulkEntries entries + 1
  | .held _ => 1
def uptoBulkAll {H : Type} : List (DataW H) → Nat
  | [] => 0
  | d :: r => uptoBulk d + uptoBulkAll r
def uptoBulkEntries {H : Type} : List (Lit × DataW H) → Nat
  | [] => 0
  | x :: r => uptoBulkEntry x + uptoBulkEntries r
def uptoBulkEntry {H : Type} : Lit × DataW H → Nat
  | (.string bytes, d) => bytes.length + uptoBulk d + 1
  | (_, d) => uptoBulk d + 1
 end
def uptoSmall : (H : Type) → List (DataW H) → Bool := fun _ ds => decide (uptoBulkAll ds ≤ 1048576)
def OpenSpec.upto (s : _root_.Go.ChangeSpec) : _root_.Go.OpenSpec := { _root_.Go.OpenSpec.ofChange s with cond := some uptoSmall }

/-- 'pandectlaw13.GradualNears', WHERE WHAT IT READS IS OF BULK AT MOST 1048576: true; the input reads as it did. -/
def gradualNearsUptoRow : OpenClaim := { program := "yteehllhldaopjaagreat", sum := "5956148ebdb1668c24c0240e116fb5b47e8ff7bb9927fa09663a413b4fb81f8b", func := "pandect/pandectlaw13.GradualNears", spec := "gradualNears", inPlace := ["internal/bytealg.abigen_runtime_cmpstring"], unfollowed := true, recurses := true, loops := true, apart := false, narrowed := true }
def GradualNearsUptoSaid : Prop := gradualNearsUptoRow.holds Tryz.pinned (OpenSpec.upto gradualNearsSpec)

/-- 'pandectlaw13.GradualBetweens', WHERE WHAT IT READS IS OF BULK AT MOST 1048576: true; the input reads as it did. -/
def gradualBetweensUptoRow : OpenClaim := { program := "yteehllhldaopjaagreat", sum := "5956148ebdb1668c24c0240e116fb5b47e8ff7bb9927fa09663a413b4fb81f8b", func := "pandect/pandectlaw13.GradualBetweens", spec := "gradualBetweens", inPlace := ["internal/bytealg.abigen_runtime_cmpstring"], unfollowed := true, recurses := true, loops := true, apart := false, narrowed := true }
def GradualBetweensUptoSaid : Prop := gradualBetweensUptoRow.holds Tryz.pinned (OpenSpec.upto gradualBetweensSpec)

/-- 'pandectlaw12.SubtypeBelows', WHERE WHAT IT READS IS OF BULK AT MOST 1048576: true; the input reads as it did. -/
def subtypeBelowsUptoRow : OpenClaim := { program := "yteehllhldaopjaagreat", sum := "5956148ebdb1668c24c0240e116fb5b47e8ff7bb9927fa09663a413b4fb81f8b", func := "pandect/pandectlaw12.SubtypeBelows", spec := "subtypeBelows", inPlace := ["maps.clone", "internal/bytealg.abigen_runtime_cmpstring"], unfollowed := true, recurses := true, loops := true, apart := false, narrowed := true }
def SubtypeBelowsUptoSaid : Prop := subtypeBelowsUptoRow.holds Tryz.pinned (OpenSpec.upto subtypeBelowsSpec)

/-- 'pandectlaw12.SubtypeJoins', WHERE WHAT IT READS IS OF BULK AT MOST 1048576: true; the input reads as it did. -/
def subtypeJoinsUptoRow : OpenClaim := { program := "yteehllhldaopjaagreat", sum := "5956148ebdb1668c24c0240e116fb5b47e8ff7bb9927fa09663a413b4fb81f8b", func := "pandect/pandectlaw12.SubtypeJoins", spec := "subtypeJoins", inPlace := ["maps.clone", "internal/bytealg.abigen_runtime_cmpstring"], unfollowed := true, recurses := true, loops := true, apart := false, narrowed := true }
def SubtypeJoinsUptoSaid : Prop := subtypeJoinsUptoRow.holds Tryz.pinned (OpenSpec.upto subtypeJoinsSpec)

/-- 'pandectlaw12.SubtypeMeets', WHERE WHAT IT READS IS OF BULK AT MOST 1048576: true; the input reads as it did. -/
def subtypeMeetsUptoRow : OpenClaim := { program := "yteehllhldaopjaagreat", sum := "5956148ebdb1668c24c0240e116fb5b47e8ff7bb9927fa09663a413b4fb81f8b", func := "pandect/pandectlaw12.SubtypeMeets", spec := "subtypeMeets", inPlace := ["maps.clone", "internal/bytealg.abigen_runtime_cmpstring"], unfollowed := true, recurses := true, loops := true, apart := false, narrowed := true }
def SubtypeMeetsUptoSaid : Prop := subtypeMeetsUptoRow.holds Tryz.pinned (OpenSpec.upto subtypeMeetsSpec)

/-- 'pandectlaw07.ShapeSames', WHERE WHAT IT READS IS OF BULK AT MOST 1048576: true; the input reads as it did. -/
def shapeSamesUptoRow : OpenClaim := { program := "yteehllhldaopjaagreat", sum := "5956148ebdb1668c24c0240e116fb5b47e8ff7bb9927fa09663a413b4fb81f8b", func := "pandect/pandectlaw07.ShapeSames", spec := "shapeSames", inPlace := ["internal/bytealg.abigen_runtime_cmpstring", "internal/abi.NoEscape", "internal/bytealg.MakeNoZero"], unfollowed := true, recurses := true, loops := true, apart := false, narrowed := true }
def ShapeSamesUptoSaid : Prop := shapeSamesUptoRow.holds Tryz.pinned (OpenSpec.upto shapeSamesSpec)

/-- 'pandectlaw16.IfaceEncodes', WHERE WHAT IT READS IS OF BULK AT MOST 1048576: true; the input reads as it did. -/
def ifaceEncodesUptoRow : OpenClaim := { program := "yteehllhldaopjaagreat", sum := "5956148ebdb1668c24c0240e116fb5b47e8ff7bb9927fa09663a413b4fb81f8b", func := "pandect/pandectlaw16.IfaceEncodes", spec := "ifaceEncodes", inPlace := ["internal/bytealg.abigen_runtime_cmpstring", "internal/abi.NoEscape", "internal/bytealg.MakeNoZero"], unfollowed := true, recurses := true, loops := true, apart := false, narrowed := true }
def IfaceEncodesUptoSaid : Prop := ifaceEncodesUptoRow.holds Tryz.pinned (OpenSpec.upto ifaceEncodesSpec)

/-- 'pandectlaw16.IfaceDecodes', WHERE WHAT IT READS IS OF BULK AT MOST 1048576: true; the input reads as it did. -/
def ifaceDecodesUptoRow : OpenClaim := { program := "yteehllhldaopjaagreat", sum := "5956148ebdb1668c24c0240e116fb5b47e8ff7bb9927fa09663a413b4fb81f8b", func := "pandect/pandectlaw16.IfaceDecodes", spec := "ifaceDecodes", inPlace := ["internal/bytealg.abigen_runtime_cmpstring", "internal/abi.NoEscape", "internal/bytealg.MakeNoZero"], unfollowed := true, recurses := true, apart := false, narrowed := true }
def IfaceDecodesUptoSaid : Prop := ifaceDecodesUptoRow.holds Tryz.pinned (OpenSpec.upto ifaceDecodesSpec)

/-- 'pandectlaw16.IfaceShows', WHERE WHAT IT READS IS OF BULK AT MOST 1048576: true; the input reads as it did. -/
def ifaceShowsUptoRow : OpenClaim := { program := "yteehllhldaopjaagreat", sum := "5956148ebdb1668c24c0240e116fb5b47e8ff7bb9927fa09663a413b4fb81f8b", func := "pandect/pandectlaw16.IfaceShows", spec := "ifaceShows", inPlace := ["internal/bytealg.abigen_runtime_cmpstring", "internal/abi.NoEscape", "internal/bytealg.MakeNoZero"], unfollowed := true, recurses := true, loops := true, apart := false, narrowed := true }
def IfaceShowsUptoSaid : Prop := ifaceShowsUptoRow.holds Tryz.pinned (OpenSpec.upto ifaceShowsSpec)

/-- 'pandectlaw16.IfaceBack', WHERE WHAT IT READS IS OF BULK AT MOST 1048576: true; the input reads as it did. -/
def ifaceBackUptoRow : OpenClaim := { program := "yteehllhldaopjaagreat", sum := "5956148ebdb1668c24c0240e116fb5b47e8ff7bb9927fa09663a413b4fb81f8b", func := "pandect/pandectlaw16.IfaceBack", spec := "ifaceBack", inPlace := ["internal/bytealg.abigen_runtime_cmpstring", "internal/abi.NoEscape", "internal/bytealg.MakeNoZero"], unfollowed := true, recurses := true, loops := true, apart := false, narrowed := true }
def IfaceBackUptoSaid : Prop := ifaceBackUptoRow.holds Tryz.pinned (OpenSpec.upto ifaceBackSpec)

/-- 'pandectlaw16.IfaceForms', WHERE WHAT IT READS IS OF BULK AT MOST 1048576: true; the input reads as it did. -/
def ifaceFormsUptoRow : OpenClaim := { program := "yteehllhldaopjaagreat", sum := "5956148ebdb1668c24c0240e116fb5b47e8ff7bb9927fa09663a413b4fb81f8b", func := "pandect/pandectlaw16.IfaceForms", spec := "ifaceForms", inPlace := ["internal/bytealg.abigen_runtime_cmpstring", "internal/abi.NoEscape", "internal/bytealg.MakeNoZero"], unfollowed := true, recurses := true, apart := false, narrowed := true }
def IfaceFormsUptoSaid : Prop := ifaceFormsUptoRow.holds Tryz.pinned (OpenSpec.upto ifaceFormsSpec)

/-- 'pandectlaw16.IfaceTexts', WHERE WHAT IT READS IS OF BULK AT MOST 1048576: true; the input reads as it did. -/
def ifaceTextsUptoRow : OpenClaim := { program := "yteehllhldaopjaagreat", sum := "5956148ebdb1668c24c0240e116fb5b47e8ff7bb9927fa09663a413b4fb81f8b", func := "pandect/pandectlaw16.IfaceTexts", spec := "ifaceTexts", inPlace := ["internal/bytealg.abigen_runtime_cmpstring", "internal/abi.NoEscape", "internal/bytealg.MakeNoZero"], unfollowed := true, recurses := true, loops := true, apart := false, narrowed := true }
def IfaceTextsUptoSaid : Prop := ifaceTextsUptoRow.holds Tryz.pinned (OpenSpec.upto ifaceTextsSpec)

end Rows
end Go.Proofs.YteehllhldaopjaaGreat
