/-
  NARROWER THAN 'FOR EVERY INPUT', by the rows' own cells (each row's printed sentence says how): ExpandResolves: loops · ExpandMore: loops · ExpandClosed: loops · ExpandTwice: loops · ExpandDeclares: loops · ExpandTypes: loops · ShapeChecks: loops · ShapeSorts: loops · ShapeShows: loops · SubtypeLeast: loops · SubtypeGreatest: loops · ShapeTurned: loops · ShapeSame: loops · GradualMoves: loops · GradualAlike: loops · GradualThrough: loops · GradualWitness: loops · SubtypeOrder: loops · SubtypeBoth: loops · GradualPlain: loops.
  DERIVED. THE GIVEN ROWS OF THIS SEAT. 20 by the template 'for every input the law returns true; each argument reads behind the call as it read before'; 0 by the template 'total and deterministic' (their statements: YteehllhldaopjaaTotals.lean).
  GIVEN WITH THE SEED: the statements are not yours to turn. If you find one false, say at which input.
  Laid BY PROGRAM, IN A SANDBOX (cutbox-rows.mjs): the forced cells as the released guide's own fill.sh prints them over the translation 4392fb0a62008e12… (all of the seat's roots in one cut). By AI agents, Wed Nov 11 2026. No macro, syntax, notation, axiom, sorry.
-/
import Derived.Test.YteehllhldaopjaaChecked
import GoSem.Claim
import GoSem.ClaimJoined
import GoSem.ClaimMapViews
import Derived.JoinedTies
import Derived.KernelRfl
namespace Go.Proofs.Yteehllhldaopjaa
/- THE CELL 'sum', in the pinned program and in every row, IS THE sha256 OF THE DUMP (.gsa) THAT YteehllhldaopjaaProg.lean LOADS. Nothing in Lean hashes anything: it is a label: what it is worth is what the hold of that sum in a sandbox is worth. -/
noncomputable def Try.pinned : Pinned := { name := "yteehllhldaopjaa", sum := "4392fb0a62008e12701c868bc23a7db1588da5b06b545215515bcc9d42a34532", checked := Try.checked }
namespace Rows
def none {H : Type} : Left H := { results := [], args := [] }

/-- 'pandectlaw11.ExpandResolves': WHATEVER THE INPUT: true; the input reads as it did. -/
def expandResolvesSpec : ChangeSpec := { name := "expandResolves", fn := fun _ => fun
  | [d1, d2] => { results := [.lit (.bool true)], args := [d1, d2] }
  | _ => none }
def expandResolvesRow : OpenClaim := { program := "yteehllhldaopjaa", sum := "4392fb0a62008e12701c868bc23a7db1588da5b06b545215515bcc9d42a34532", func := "pandect/pandectlaw11.ExpandResolves", spec := "expandResolves", inPlace := ["internal/bytealg.abigen_runtime_cmpstring"], unfollowed := true, recurses := true, loops := true, plainKeys := false, apart := false }
def ExpandResolvesSaid : Prop := expandResolvesRow.holds Try.pinned (OpenSpec.ofChange expandResolvesSpec)

/-- ITS FALSE NEIGHBOUR: 'it returns false'. Refute it at one input. -/
def expandResolvesWrong : ChangeSpec := { name := "expandResolves", fn := fun _ => fun
  | [d1, d2] => { results := [.lit (.bool false)], args := [d1, d2] }
  | _ => none }
def ExpandResolvesWrongFalsely : Prop := expandResolvesRow.holds Try.pinned (OpenSpec.ofChange expandResolvesWrong)

/-- 'pandectlaw11.ExpandMore': WHATEVER THE INPUT: true; the input reads as it did. -/
def expandMoreSpec : ChangeSpec := { name := "expandMore", fn := fun _ => fun
  | [d1, d2, d3] => { results := [.lit (.bool true)], args := [d1, d2, d3] }
  | _ => none }
def expandMoreRow : OpenClaim := { program := "yteehllhldaopjaa", sum := "4392fb0a62008e12701c868bc23a7db1588da5b06b545215515bcc9d42a34532", func := "pandect/pandectlaw11.ExpandMore", spec := "expandMore", inPlace := ["internal/bytealg.abigen_runtime_cmpstring"], unfollowed := true, recurses := true, loops := true, plainKeys := false, apart := false }
def ExpandMoreSaid : Prop := expandMoreRow.holds Try.pinned (OpenSpec.ofChange expandMoreSpec)

/-- ITS FALSE NEIGHBOUR: 'it returns false'. Refute it at one input. -/
def expandMoreWrong : ChangeSpec := { name := "expandMore", fn := fun _ => fun
  | [d1, d2, d3] => { results := [.lit (.bool false)], args := [d1, d2, d3] }
  | _ => none }
def ExpandMoreWrongFalsely : Prop := expandMoreRow.holds Try.pinned (OpenSpec.ofChange expandMoreWrong)

/-- 'pandectlaw11.ExpandClosed': WHATEVER THE INPUT: true; the input reads as it did. -/
def expandClosedSpec : ChangeSpec := { name := "expandClosed", fn := fun _ => fun
  | [d1, d2] => { results := [.lit (.bool true)], args := [d1, d2] }
  | _ => none }
def expandClosedRow : OpenClaim := { program := "yteehllhldaopjaa", sum := "4392fb0a62008e12701c868bc23a7db1588da5b06b545215515bcc9d42a34532", func := "pandect/pandectlaw11.ExpandClosed", spec := "expandClosed", inPlace := ["internal/bytealg.abigen_runtime_cmpstring"], unfollowed := true, recurses := true, loops := true, plainKeys := false, apart := false }
def ExpandClosedSaid : Prop := expandClosedRow.holds Try.pinned (OpenSpec.ofChange expandClosedSpec)

/-- ITS FALSE NEIGHBOUR: 'it returns false'. Refute it at one input. -/
def expandClosedWrong : ChangeSpec := { name := "expandClosed", fn := fun _ => fun
  | [d1, d2] => { results := [.lit (.bool false)], args := [d1, d2] }
  | _ => none }
def ExpandClosedWrongFalsely : Prop := expandClosedRow.holds Try.pinned (OpenSpec.ofChange expandClosedWrong)

/-- 'pandectlaw11.ExpandTwice': WHATEVER THE INPUT: true; the input reads as it did. -/
def expandTwiceSpec : ChangeSpec := { name := "expandTwice", fn := fun _ => fun
  | [d1, d2, d3] => { results := [.lit (.bool true)], args := [d1, d2, d3] }
  | _ => none }
def expandTwiceRow : OpenClaim := { program := "yteehllhldaopjaa", sum := "4392fb0a62008e12701c868bc23a7db1588da5b06b545215515bcc9d42a34532", func := "pandect/pandectlaw11.ExpandTwice", spec := "expandTwice", inPlace := ["internal/bytealg.abigen_runtime_cmpstring"], unfollowed := true, recurses := true, loops := true, plainKeys := false, apart := false }
def ExpandTwiceSaid : Prop := expandTwiceRow.holds Try.pinned (OpenSpec.ofChange expandTwiceSpec)

/-- ITS FALSE NEIGHBOUR: 'it returns false'. Refute it at one input. -/
def expandTwiceWrong : ChangeSpec := { name := "expandTwice", fn := fun _ => fun
  | [d1, d2, d3] => { results := [.lit (.bool false)], args := [d1, d2, d3] }
  | _ => none }
def ExpandTwiceWrongFalsely : Prop := expandTwiceRow.holds Try.pinned (OpenSpec.ofChange expandTwiceWrong)

/-- 'pandectlaw11.ExpandDeclares': WHATEVER THE INPUT: true; the input reads as it did. -/
def expandDeclaresSpec : ChangeSpec := { name := "expandDeclares", fn := fun _ => fun
  | [d1, d2, d3] => { results := [.lit (.bool true)], args := [d1, d2, d3] }
  | _ => none }
def expandDeclaresRow : OpenClaim := { program := "yteehllhldaopjaa", sum := "4392fb0a62008e12701c868bc23a7db1588da5b06b545215515bcc9d42a34532", func := "pandect/pandectlaw11.ExpandDeclares", spec := "expandDeclares", inPlace := ["internal/bytealg.abigen_runtime_cmpstring"], unfollowed := true, recurses := true, loops := true, plainKeys := false, apart := false }
def ExpandDeclaresSaid : Prop := expandDeclaresRow.holds Try.pinned (OpenSpec.ofChange expandDeclaresSpec)

/-- ITS FALSE NEIGHBOUR: 'it returns false'. Refute it at one input. -/
def expandDeclaresWrong : ChangeSpec := { name := "expandDeclares", fn := fun _ => fun
  | [d1, d2, d3] => { results := [.lit (.bool false)], args := [d1, d2, d3] }
  | _ => none }
def ExpandDeclaresWrongFalsely : Prop := expandDeclaresRow.holds Try.pinned (OpenSpec.ofChange expandDeclaresWrong)

/-- 'pandectlaw11.ExpandTypes': WHATEVER THE INPUT: true; the input reads as it did. -/
def expandTypesSpec : ChangeSpec := { name := "expandTypes", fn := fun _ => fun
  | [d1, d2] => { results := [.lit (.bool true)], args := [d1, d2] }
  | _ => none }
def expandTypesRow : OpenClaim := { program := "yteehllhldaopjaa", sum := "4392fb0a62008e12701c868bc23a7db1588da5b06b545215515bcc9d42a34532", func := "pandect/pandectlaw11.ExpandTypes", spec := "expandTypes", inPlace := ["internal/bytealg.abigen_runtime_cmpstring"], unfollowed := true, recurses := true, loops := true, plainKeys := false, apart := false }
def ExpandTypesSaid : Prop := expandTypesRow.holds Try.pinned (OpenSpec.ofChange expandTypesSpec)

/-- ITS FALSE NEIGHBOUR: 'it returns false'. Refute it at one input. -/
def expandTypesWrong : ChangeSpec := { name := "expandTypes", fn := fun _ => fun
  | [d1, d2] => { results := [.lit (.bool false)], args := [d1, d2] }
  | _ => none }
def ExpandTypesWrongFalsely : Prop := expandTypesRow.holds Try.pinned (OpenSpec.ofChange expandTypesWrong)

/-- 'pandectlaw07.ShapeChecks': WHATEVER THE INPUT: true; the input reads as it did. -/
def shapeChecksSpec : ChangeSpec := { name := "shapeChecks", fn := fun _ => fun
  | [d] => { results := [.lit (.bool true)], args := [d] }
  | _ => none }
def shapeChecksRow : OpenClaim := { program := "yteehllhldaopjaa", sum := "4392fb0a62008e12701c868bc23a7db1588da5b06b545215515bcc9d42a34532", func := "pandect/pandectlaw07.ShapeChecks", spec := "shapeChecks", inPlace := ["internal/abi.NoEscape", "internal/bytealg.MakeNoZero", "internal/bytealg.abigen_runtime_cmpstring"], unfollowed := true, recurses := true, loops := true, plainKeys := false, apart := false }
def ShapeChecksSaid : Prop := shapeChecksRow.holds Try.pinned (OpenSpec.ofChange shapeChecksSpec)

/-- ITS FALSE NEIGHBOUR: 'it returns false'. Refute it at one input. -/
def shapeChecksWrong : ChangeSpec := { name := "shapeChecks", fn := fun _ => fun
  | [d] => { results := [.lit (.bool false)], args := [d] }
  | _ => none }
def ShapeChecksWrongFalsely : Prop := shapeChecksRow.holds Try.pinned (OpenSpec.ofChange shapeChecksWrong)

/-- 'pandectlaw07.ShapeSorts': WHATEVER THE INPUT: true; the input reads as it did. -/
def shapeSortsSpec : ChangeSpec := { name := "shapeSorts", fn := fun _ => fun
  | [d] => { results := [.lit (.bool true)], args := [d] }
  | _ => none }
def shapeSortsRow : OpenClaim := { program := "yteehllhldaopjaa", sum := "4392fb0a62008e12701c868bc23a7db1588da5b06b545215515bcc9d42a34532", func := "pandect/pandectlaw07.ShapeSorts", spec := "shapeSorts", inPlace := ["internal/abi.NoEscape", "internal/bytealg.MakeNoZero", "internal/bytealg.abigen_runtime_cmpstring"], unfollowed := true, recurses := true, loops := true, plainKeys := false, apart := false }
def ShapeSortsSaid : Prop := shapeSortsRow.holds Try.pinned (OpenSpec.ofChange shapeSortsSpec)

/-- ITS FALSE NEIGHBOUR: 'it returns false'. Refute it at one input. -/
def shapeSortsWrong : ChangeSpec := { name := "shapeSorts", fn := fun _ => fun
  | [d] => { results := [.lit (.bool false)], args := [d] }
  | _ => none }
def ShapeSortsWrongFalsely : Prop := shapeSortsRow.holds Try.pinned (OpenSpec.ofChange shapeSortsWrong)

/-- 'pandectlaw07.ShapeShows': WHATEVER THE INPUT: true; the input reads as it did. -/
def shapeShowsSpec : ChangeSpec := { name := "shapeShows", fn := fun _ => fun
  | [d] => { results := [.lit (.bool true)], args := [d] }
  | _ => none }
def shapeShowsRow : OpenClaim := { program := "yteehllhldaopjaa", sum := "4392fb0a62008e12701c868bc23a7db1588da5b06b545215515bcc9d42a34532", func := "pandect/pandectlaw07.ShapeShows", spec := "shapeShows", inPlace := ["internal/abi.NoEscape", "internal/bytealg.MakeNoZero", "internal/bytealg.abigen_runtime_cmpstring"], unfollowed := true, recurses := true, loops := true, plainKeys := false, apart := false }
def ShapeShowsSaid : Prop := shapeShowsRow.holds Try.pinned (OpenSpec.ofChange shapeShowsSpec)

/-- ITS FALSE NEIGHBOUR: 'it returns false'. Refute it at one input. -/
def shapeShowsWrong : ChangeSpec := { name := "shapeShows", fn := fun _ => fun
  | [d] => { results := [.lit (.bool false)], args := [d] }
  | _ => none }
def ShapeShowsWrongFalsely : Prop := shapeShowsRow.holds Try.pinned (OpenSpec.ofChange shapeShowsWrong)

/-- 'pandectlaw12.SubtypeLeast': WHATEVER THE INPUT: true; the input reads as it did. -/
def subtypeLeastSpec : ChangeSpec := { name := "subtypeLeast", fn := fun _ => fun
  | [d1, d2, d3] => { results := [.lit (.bool true)], args := [d1, d2, d3] }
  | _ => none }
def subtypeLeastRow : OpenClaim := { program := "yteehllhldaopjaa", sum := "4392fb0a62008e12701c868bc23a7db1588da5b06b545215515bcc9d42a34532", func := "pandect/pandectlaw12.SubtypeLeast", spec := "subtypeLeast", inPlace := ["maps.clone", "internal/bytealg.abigen_runtime_cmpstring"], unfollowed := true, recurses := true, loops := true, plainKeys := false, apart := false }
def SubtypeLeastSaid : Prop := subtypeLeastRow.holds Try.pinned (OpenSpec.ofChange subtypeLeastSpec)

/-- ITS FALSE NEIGHBOUR: 'it returns false'. Refute it at one input. -/
def subtypeLeastWrong : ChangeSpec := { name := "subtypeLeast", fn := fun _ => fun
  | [d1, d2, d3] => { results := [.lit (.bool false)], args := [d1, d2, d3] }
  | _ => none }
def SubtypeLeastWrongFalsely : Prop := subtypeLeastRow.holds Try.pinned (OpenSpec.ofChange subtypeLeastWrong)

/-- 'pandectlaw12.SubtypeGreatest': WHATEVER THE INPUT: true; the input reads as it did. -/
def subtypeGreatestSpec : ChangeSpec := { name := "subtypeGreatest", fn := fun _ => fun
  | [d1, d2, d3] => { results := [.lit (.bool true)], args := [d1, d2, d3] }
  | _ => none }
def subtypeGreatestRow : OpenClaim := { program := "yteehllhldaopjaa", sum := "4392fb0a62008e12701c868bc23a7db1588da5b06b545215515bcc9d42a34532", func := "pandect/pandectlaw12.SubtypeGreatest", spec := "subtypeGreatest", inPlace := ["maps.clone", "internal/bytealg.abigen_runtime_cmpstring"], unfollowed := true, recurses := true, loops := true, plainKeys := false, apart := false }
def SubtypeGreatestSaid : Prop := subtypeGreatestRow.holds Try.pinned (OpenSpec.ofChange subtypeGreatestSpec)

/-- ITS FALSE NEIGHBOUR: 'it returns false'. Refute it at one input. -/
def subtypeGreatestWrong : ChangeSpec := { name := "subtypeGreatest", fn := fun _ => fun
  | [d1, d2, d3] => { results := [.lit (.bool false)], args := [d1, d2, d3] }
  | _ => none }
def SubtypeGreatestWrongFalsely : Prop := subtypeGreatestRow.holds Try.pinned (OpenSpec.ofChange subtypeGreatestWrong)

/-- 'pandectlaw07.ShapeTurned': WHATEVER THE INPUT: true; the input reads as it did. -/
def shapeTurnedSpec : ChangeSpec := { name := "shapeTurned", fn := fun _ => fun
  | [d] => { results := [.lit (.bool true)], args := [d] }
  | _ => none }
def shapeTurnedRow : OpenClaim := { program := "yteehllhldaopjaa", sum := "4392fb0a62008e12701c868bc23a7db1588da5b06b545215515bcc9d42a34532", func := "pandect/pandectlaw07.ShapeTurned", spec := "shapeTurned", inPlace := ["internal/bytealg.abigen_runtime_cmpstring", "internal/abi.NoEscape", "internal/bytealg.MakeNoZero"], unfollowed := true, recurses := true, loops := true, plainKeys := false, apart := false }
def ShapeTurnedSaid : Prop := shapeTurnedRow.holds Try.pinned (OpenSpec.ofChange shapeTurnedSpec)

/-- ITS FALSE NEIGHBOUR: 'it returns false'. Refute it at one input. -/
def shapeTurnedWrong : ChangeSpec := { name := "shapeTurned", fn := fun _ => fun
  | [d] => { results := [.lit (.bool false)], args := [d] }
  | _ => none }
def ShapeTurnedWrongFalsely : Prop := shapeTurnedRow.holds Try.pinned (OpenSpec.ofChange shapeTurnedWrong)

/-- 'pandectlaw07.ShapeSame': WHATEVER THE INPUT: true; the input reads as it did. -/
def shapeSameSpec : ChangeSpec := { name := "shapeSame", fn := fun _ => fun
  | [d1, d2, d3] => { results := [.lit (.bool true)], args := [d1, d2, d3] }
  | _ => none }
def shapeSameRow : OpenClaim := { program := "yteehllhldaopjaa", sum := "4392fb0a62008e12701c868bc23a7db1588da5b06b545215515bcc9d42a34532", func := "pandect/pandectlaw07.ShapeSame", spec := "shapeSame", inPlace := ["internal/abi.NoEscape", "internal/bytealg.MakeNoZero", "internal/bytealg.abigen_runtime_cmpstring"], unfollowed := true, recurses := true, loops := true, plainKeys := false, apart := false }
def ShapeSameSaid : Prop := shapeSameRow.holds Try.pinned (OpenSpec.ofChange shapeSameSpec)

/-- ITS FALSE NEIGHBOUR: 'it returns false'. Refute it at one input. -/
def shapeSameWrong : ChangeSpec := { name := "shapeSame", fn := fun _ => fun
  | [d1, d2, d3] => { results := [.lit (.bool false)], args := [d1, d2, d3] }
  | _ => none }
def ShapeSameWrongFalsely : Prop := shapeSameRow.holds Try.pinned (OpenSpec.ofChange shapeSameWrong)

/-- 'pandectlaw13.GradualMoves': WHATEVER THE INPUT: true; the input reads as it did. -/
def gradualMovesSpec : ChangeSpec := { name := "gradualMoves", fn := fun _ => fun
  | [d1, d2, d3] => { results := [.lit (.bool true)], args := [d1, d2, d3] }
  | _ => none }
def gradualMovesRow : OpenClaim := { program := "yteehllhldaopjaa", sum := "4392fb0a62008e12701c868bc23a7db1588da5b06b545215515bcc9d42a34532", func := "pandect/pandectlaw13.GradualMoves", spec := "gradualMoves", inPlace := ["internal/bytealg.abigen_runtime_cmpstring"], unfollowed := true, recurses := true, loops := true, plainKeys := false, apart := false }
def GradualMovesSaid : Prop := gradualMovesRow.holds Try.pinned (OpenSpec.ofChange gradualMovesSpec)

/-- ITS FALSE NEIGHBOUR: 'it returns false'. Refute it at one input. -/
def gradualMovesWrong : ChangeSpec := { name := "gradualMoves", fn := fun _ => fun
  | [d1, d2, d3] => { results := [.lit (.bool false)], args := [d1, d2, d3] }
  | _ => none }
def GradualMovesWrongFalsely : Prop := gradualMovesRow.holds Try.pinned (OpenSpec.ofChange gradualMovesWrong)

/-- 'pandectlaw13.GradualAlike': WHATEVER THE INPUT: true; the input reads as it did. -/
def gradualAlikeSpec : ChangeSpec := { name := "gradualAlike", fn := fun _ => fun
  | [d1, d2] => { results := [.lit (.bool true)], args := [d1, d2] }
  | _ => none }
def gradualAlikeRow : OpenClaim := { program := "yteehllhldaopjaa", sum := "4392fb0a62008e12701c868bc23a7db1588da5b06b545215515bcc9d42a34532", func := "pandect/pandectlaw13.GradualAlike", spec := "gradualAlike", inPlace := ["internal/bytealg.abigen_runtime_cmpstring"], unfollowed := true, recurses := true, loops := true, plainKeys := false, apart := false }
def GradualAlikeSaid : Prop := gradualAlikeRow.holds Try.pinned (OpenSpec.ofChange gradualAlikeSpec)

/-- ITS FALSE NEIGHBOUR: 'it returns false'. Refute it at one input. -/
def gradualAlikeWrong : ChangeSpec := { name := "gradualAlike", fn := fun _ => fun
  | [d1, d2] => { results := [.lit (.bool false)], args := [d1, d2] }
  | _ => none }
def GradualAlikeWrongFalsely : Prop := gradualAlikeRow.holds Try.pinned (OpenSpec.ofChange gradualAlikeWrong)

/-- 'pandectlaw13.GradualThrough': WHATEVER THE INPUT: true; the input reads as it did. -/
def gradualThroughSpec : ChangeSpec := { name := "gradualThrough", fn := fun _ => fun
  | [d1, d2, d3] => { results := [.lit (.bool true)], args := [d1, d2, d3] }
  | _ => none }
def gradualThroughRow : OpenClaim := { program := "yteehllhldaopjaa", sum := "4392fb0a62008e12701c868bc23a7db1588da5b06b545215515bcc9d42a34532", func := "pandect/pandectlaw13.GradualThrough", spec := "gradualThrough", inPlace := ["internal/bytealg.abigen_runtime_cmpstring"], unfollowed := true, recurses := true, loops := true, plainKeys := false, apart := false }
def GradualThroughSaid : Prop := gradualThroughRow.holds Try.pinned (OpenSpec.ofChange gradualThroughSpec)

/-- ITS FALSE NEIGHBOUR: 'it returns false'. Refute it at one input. -/
def gradualThroughWrong : ChangeSpec := { name := "gradualThrough", fn := fun _ => fun
  | [d1, d2, d3] => { results := [.lit (.bool false)], args := [d1, d2, d3] }
  | _ => none }
def GradualThroughWrongFalsely : Prop := gradualThroughRow.holds Try.pinned (OpenSpec.ofChange gradualThroughWrong)

/-- 'pandectlaw13.GradualWitness': WHATEVER THE INPUT: true; the input reads as it did. -/
def gradualWitnessSpec : ChangeSpec := { name := "gradualWitness", fn := fun _ => fun
  | [d1, d2] => { results := [.lit (.bool true)], args := [d1, d2] }
  | _ => none }
def gradualWitnessRow : OpenClaim := { program := "yteehllhldaopjaa", sum := "4392fb0a62008e12701c868bc23a7db1588da5b06b545215515bcc9d42a34532", func := "pandect/pandectlaw13.GradualWitness", spec := "gradualWitness", inPlace := ["internal/bytealg.abigen_runtime_cmpstring"], unfollowed := true, recurses := true, loops := true, plainKeys := false, apart := false }
def GradualWitnessSaid : Prop := gradualWitnessRow.holds Try.pinned (OpenSpec.ofChange gradualWitnessSpec)

/-- ITS FALSE NEIGHBOUR: 'it returns false'. Refute it at one input. -/
def gradualWitnessWrong : ChangeSpec := { name := "gradualWitness", fn := fun _ => fun
  | [d1, d2] => { results := [.lit (.bool false)], args := [d1, d2] }
  | _ => none }
def GradualWitnessWrongFalsely : Prop := gradualWitnessRow.holds Try.pinned (OpenSpec.ofChange gradualWitnessWrong)

/-- 'pandectlaw12.SubtypeOrder': WHATEVER THE INPUT: true; the input reads as it did. -/
def subtypeOrderSpec : ChangeSpec := { name := "subtypeOrder", fn := fun _ => fun
  | [d1, d2, d3] => { results := [.lit (.bool true)], args := [d1, d2, d3] }
  | _ => none }
def subtypeOrderRow : OpenClaim := { program := "yteehllhldaopjaa", sum := "4392fb0a62008e12701c868bc23a7db1588da5b06b545215515bcc9d42a34532", func := "pandect/pandectlaw12.SubtypeOrder", spec := "subtypeOrder", inPlace := ["maps.clone", "internal/bytealg.abigen_runtime_cmpstring"], unfollowed := true, recurses := true, loops := true, plainKeys := false, apart := false }
def SubtypeOrderSaid : Prop := subtypeOrderRow.holds Try.pinned (OpenSpec.ofChange subtypeOrderSpec)

/-- ITS FALSE NEIGHBOUR: 'it returns false'. Refute it at one input. -/
def subtypeOrderWrong : ChangeSpec := { name := "subtypeOrder", fn := fun _ => fun
  | [d1, d2, d3] => { results := [.lit (.bool false)], args := [d1, d2, d3] }
  | _ => none }
def SubtypeOrderWrongFalsely : Prop := subtypeOrderRow.holds Try.pinned (OpenSpec.ofChange subtypeOrderWrong)

/-- 'pandectlaw12.SubtypeBoth': WHATEVER THE INPUT: true; the input reads as it did. -/
def subtypeBothSpec : ChangeSpec := { name := "subtypeBoth", fn := fun _ => fun
  | [d1, d2] => { results := [.lit (.bool true)], args := [d1, d2] }
  | _ => none }
def subtypeBothRow : OpenClaim := { program := "yteehllhldaopjaa", sum := "4392fb0a62008e12701c868bc23a7db1588da5b06b545215515bcc9d42a34532", func := "pandect/pandectlaw12.SubtypeBoth", spec := "subtypeBoth", inPlace := ["maps.clone", "internal/bytealg.abigen_runtime_cmpstring"], unfollowed := true, recurses := true, loops := true, plainKeys := false, apart := false }
def SubtypeBothSaid : Prop := subtypeBothRow.holds Try.pinned (OpenSpec.ofChange subtypeBothSpec)

/-- ITS FALSE NEIGHBOUR: 'it returns false'. Refute it at one input. -/
def subtypeBothWrong : ChangeSpec := { name := "subtypeBoth", fn := fun _ => fun
  | [d1, d2] => { results := [.lit (.bool false)], args := [d1, d2] }
  | _ => none }
def SubtypeBothWrongFalsely : Prop := subtypeBothRow.holds Try.pinned (OpenSpec.ofChange subtypeBothWrong)

/-- 'pandectlaw13.GradualPlain': WHATEVER THE INPUT: true; the input reads as it did. -/
def gradualPlainSpec : ChangeSpec := { name := "gradualPlain", fn := fun _ => fun
  | [d1, d2] => { results := [.lit (.bool true)], args := [d1, d2] }
  | _ => none }
def gradualPlainRow : OpenClaim := { program := "yteehllhldaopjaa", sum := "4392fb0a62008e12701c868bc23a7db1588da5b06b545215515bcc9d42a34532", func := "pandect/pandectlaw13.GradualPlain", spec := "gradualPlain", inPlace := ["internal/bytealg.abigen_runtime_cmpstring"], unfollowed := true, recurses := true, loops := true, plainKeys := false, apart := false }
def GradualPlainSaid : Prop := gradualPlainRow.holds Try.pinned (OpenSpec.ofChange gradualPlainSpec)

/-- ITS FALSE NEIGHBOUR: 'it returns false'. Refute it at one input. -/
def gradualPlainWrong : ChangeSpec := { name := "gradualPlain", fn := fun _ => fun
  | [d1, d2] => { results := [.lit (.bool false)], args := [d1, d2] }
  | _ => none }
def GradualPlainWrongFalsely : Prop := gradualPlainRow.holds Try.pinned (OpenSpec.ofChange gradualPlainWrong)

/- THE SECOND FORM. 'bulk': how many values and letters a reading holds, each counted each time it is reached (what is shared counts as often as it is met; a slice's spare places count too). A statement '..UptoSaid' is the law's where the arguments, and the package variables that the reading takes, are together of bulk at most 1048576: NARROWER than '..Said'. Prove '..Said' where nothing that the law and all that it calls make is longer than what came in: it says more and counts as full. Else prove '..UptoSaid'. A law counts once. -/
mutual
def uptoBulk {H : Type} : DataW H → Nat
  | .lit (.string bytes) => bytes.length + 1
  | .lit _ => 1
  | .nil => 1
  | .ptr d => uptoBulk d + 1
  | .slice elems spare => uptoBulkAll elems + uptoBulkAll spare + 1
  | .agg parts => uptoBulkAll parts + 1
  | .iface _ d => uptoBulk d + 1
  | .map entries => uptoBulkEntries entries + 1
  | .held _ => 1
def uptoBulkAll {H : Type} : List (DataW H) → Nat
  | [] => 0
  | d :: r => uptoBulk d + uptoBulkAll r
def uptoBulkEntries {H : Type} : List (Lit × DataW H) → Nat
  | [] => 0
  | x :: r => uptoBulkEntry x + uptoBulkEntries r
def uptoBulkEntry {H : Type} : Lit × DataW H → Nat
  | (.string bytes, d) => bytes.length + uptoBulk d + 1
  | (_, d) => uptoBulk d + 1
 end
def uptoSmall : (H : Type) → List (DataW H) → Bool := fun _ ds => decide (uptoBulkAll ds ≤ 1048576)
def OpenSpec.upto (s : _root_.Go.ChangeSpec) : _root_.Go.OpenSpec := { _root_.Go.OpenSpec.ofChange s with cond := some uptoSmall }

/-- 'pandectlaw11.ExpandResolves', WHERE WHAT IT READS IS OF BULK AT MOST 1048576: true; the input reads as it did. -/
def expandResolvesUptoRow : OpenClaim := { program := "yteehllhldaopjaa", sum := "4392fb0a62008e12701c868bc23a7db1588da5b06b545215515bcc9d42a34532", func := "pandect/pandectlaw11.ExpandResolves", spec := "expandResolves", inPlace := ["internal/bytealg.abigen_runtime_cmpstring"], unfollowed := true, recurses := true, loops := true, plainKeys := false, apart := false, narrowed := true }
def ExpandResolvesUptoSaid : Prop := expandResolvesUptoRow.holds Try.pinned (OpenSpec.upto expandResolvesSpec)

/-- 'pandectlaw11.ExpandMore', WHERE WHAT IT READS IS OF BULK AT MOST 1048576: true; the input reads as it did. -/
def expandMoreUptoRow : OpenClaim := { program := "yteehllhldaopjaa", sum := "4392fb0a62008e12701c868bc23a7db1588da5b06b545215515bcc9d42a34532", func := "pandect/pandectlaw11.ExpandMore", spec := "expandMore", inPlace := ["internal/bytealg.abigen_runtime_cmpstring"], unfollowed := true, recurses := true, loops := true, plainKeys := false, apart := false, narrowed := true }
def ExpandMoreUptoSaid : Prop := expandMoreUptoRow.holds Try.pinned (OpenSpec.upto expandMoreSpec)

/-- 'pandectlaw11.ExpandClosed', WHERE WHAT IT READS IS OF BULK AT MOST 1048576: true; the input reads as it did. -/
def expandClosedUptoRow : OpenClaim := { program := "yteehllhldaopjaa", sum := "4392fb0a62008e12701c868bc23a7db1588da5b06b545215515bcc9d42a34532", func := "pandect/pandectlaw11.ExpandClosed", spec := "expandClosed", inPlace := ["internal/bytealg.abigen_runtime_cmpstring"], unfollowed := true, recurses := true, loops := true, plainKeys := false, apart := false, narrowed := true }
def ExpandClosedUptoSaid : Prop := expandClosedUptoRow.holds Try.pinned (OpenSpec.upto expandClosedSpec)

/-- 'pandectlaw11.ExpandTwice', WHERE WHAT IT READS IS OF BULK AT MOST 1048576: true; the input reads as it did. -/
def expandTwiceUptoRow : OpenClaim := { program := "yteehllhldaopjaa", sum := "4392fb0a62008e12701c868bc23a7db1588da5b06b545215515bcc9d42a34532", func := "pandect/pandectlaw11.ExpandTwice", spec := "expandTwice", inPlace := ["internal/bytealg.abigen_runtime_cmpstring"], unfollowed := true, recurses := true, loops := true, plainKeys := false, apart := false, narrowed := true }
def ExpandTwiceUptoSaid : Prop := expandTwiceUptoRow.holds Try.pinned (OpenSpec.upto expandTwiceSpec)

/-- 'pandectlaw11.ExpandDeclares', WHERE WHAT IT READS IS OF BULK AT MOST 1048576: true; the input reads as it did. -/
def expandDeclaresUptoRow : OpenClaim := { program := "yteehllhldaopjaa", sum := "4392fb0a62008e12701c868bc23a7db1588da5b06b545215515bcc9d42a34532", func := "pandect/pandectlaw11.ExpandDeclares", spec := "expandDeclares", inPlace := ["internal/bytealg.abigen_runtime_cmpstring"], unfollowed := true, recurses := true, loops := true, plainKeys := false, apart := false, narrowed := true }
def ExpandDeclaresUptoSaid : Prop := expandDeclaresUptoRow.holds Try.pinned (OpenSpec.upto expandDeclaresSpec)

/-- 'pandectlaw11.ExpandTypes', WHERE WHAT IT READS IS OF BULK AT MOST 1048576: true; the input reads as it did. -/
def expandTypesUptoRow : OpenClaim := { program := "yteehllhldaopjaa", sum := "4392fb0a62008e12701c868bc23a7db1588da5b06b545215515bcc9d42a34532", func := "pandect/pandectlaw11.ExpandTypes", spec := "expandTypes", inPlace := ["internal/bytealg.abigen_runtime_cmpstring"], unfollowed := true, recurses := true, loops := true, plainKeys := false, apart := false, narrowed := true }
def ExpandTypesUptoSaid : Prop := expandTypesUptoRow.holds Try.pinned (OpenSpec.upto expandTypesSpec)

/-- 'pandectlaw07.ShapeChecks', WHERE WHAT IT READS IS OF BULK AT MOST 1048576: true; the input reads as it did. -/
def shapeChecksUptoRow : OpenClaim := { program := "yteehllhldaopjaa", sum := "4392fb0a62008e12701c868bc23a7db1588da5b06b545215515bcc9d42a34532", func := "pandect/pandectlaw07.ShapeChecks", spec := "shapeChecks", inPlace := ["internal/abi.NoEscape", "internal/bytealg.MakeNoZero", "internal/bytealg.abigen_runtime_cmpstring"], unfollowed := true, recurses := true, loops := true, plainKeys := false, apart := false, narrowed := true }
def ShapeChecksUptoSaid : Prop := shapeChecksUptoRow.holds Try.pinned (OpenSpec.upto shapeChecksSpec)

/-- 'pandectlaw07.ShapeSorts', WHERE WHAT IT READS IS OF BULK AT MOST 1048576: true; the input reads as it did. -/
def shapeSortsUptoRow : OpenClaim := { program := "yteehllhldaopjaa", sum := "4392fb0a62008e12701c868bc23a7db1588da5b06b545215515bcc9d42a34532", func := "pandect/pandectlaw07.ShapeSorts", spec := "shapeSorts", inPlace := ["internal/abi.NoEscape", "internal/bytealg.MakeNoZero", "internal/bytealg.abigen_runtime_cmpstring"], unfollowed := true, recurses := true, loops := true, plainKeys := false, apart := false, narrowed := true }
def ShapeSortsUptoSaid : Prop := shapeSortsUptoRow.holds Try.pinned (OpenSpec.upto shapeSortsSpec)

/-- 'pandectlaw07.ShapeShows', WHERE WHAT IT READS IS OF BULK AT MOST 1048576: true; the input reads as it did. -/
def shapeShowsUptoRow : OpenClaim := { program := "yteehllhldaopjaa", sum := "4392fb0a62008e12701c868bc23a7db1588da5b06b545215515bcc9d42a34532", func := "pandect/pandectlaw07.ShapeShows", spec := "shapeShows", inPlace := ["internal/abi.NoEscape", "internal/bytealg.MakeNoZero", "internal/bytealg.abigen_runtime_cmpstring"], unfollowed := true, recurses := true, loops := true, plainKeys := false, apart := false, narrowed := true }
def ShapeShowsUptoSaid : Prop := shapeShowsUptoRow.holds Try.pinned (OpenSpec.upto shapeShowsSpec)

/-- 'pandectlaw12.SubtypeLeast', WHERE WHAT IT READS IS OF BULK AT MOST 1048576: true; the input reads as it did. -/
def subtypeLeastUptoRow : OpenClaim := { program := "yteehllhldaopjaa", sum := "4392fb0a62008e12701c868bc23a7db1588da5b06b545215515bcc9d42a34532", func := "pandect/pandectlaw12.SubtypeLeast", spec := "subtypeLeast", inPlace := ["maps.clone", "internal/bytealg.abigen_runtime_cmpstring"], unfollowed := true, recurses := true, loops := true, plainKeys := false, apart := false, narrowed := true }
def SubtypeLeastUptoSaid : Prop := subtypeLeastUptoRow.holds Try.pinned (OpenSpec.upto subtypeLeastSpec)

/-- 'pandectlaw12.SubtypeGreatest', WHERE WHAT IT READS IS OF BULK AT MOST 1048576: true; the input reads as it did. -/
def subtypeGreatestUptoRow : OpenClaim := { program := "yteehllhldaopjaa", sum := "4392fb0a62008e12701c868bc23a7db1588da5b06b545215515bcc9d42a34532", func := "pandect/pandectlaw12.SubtypeGreatest", spec := "subtypeGreatest", inPlace := ["maps.clone", "internal/bytealg.abigen_runtime_cmpstring"], unfollowed := true, recurses := true, loops := true, plainKeys := false, apart := false, narrowed := true }
def SubtypeGreatestUptoSaid : Prop := subtypeGreatestUptoRow.holds Try.pinned (OpenSpec.upto subtypeGreatestSpec)

/-- 'pandectlaw07.ShapeTurned', WHERE WHAT IT READS IS OF BULK AT MOST 1048576: true; the input reads as it did. -/
def shapeTurnedUptoRow : OpenClaim := { program := "yteehllhldaopjaa", sum := "4392fb0a62008e12701c868bc23a7db1588da5b06b545215515bcc9d42a34532", func := "pandect/pandectlaw07.ShapeTurned", spec := "shapeTurned", inPlace := ["internal/bytealg.abigen_runtime_cmpstring", "internal/abi.NoEscape", "internal/bytealg.MakeNoZero"], unfollowed := true, recurses := true, loops := true, plainKeys := false, apart := false, narrowed := true }
def ShapeTurnedUptoSaid : Prop := shapeTurnedUptoRow.holds Try.pinned (OpenSpec.upto shapeTurnedSpec)

/-- 'pandectlaw07.ShapeSame', WHERE WHAT IT READS IS OF BULK AT MOST 1048576: true; the input reads as it did. -/
def shapeSameUptoRow : OpenClaim := { program := "yteehllhldaopjaa", sum := "4392fb0a62008e12701c868bc23a7db1588da5b06b545215515bcc9d42a34532", func := "pandect/pandectlaw07.ShapeSame", spec := "shapeSame", inPlace := ["internal/abi.NoEscape", "internal/bytealg.MakeNoZero", "internal/bytealg.abigen_runtime_cmpstring"], unfollowed := true, recurses := true, loops := true, plainKeys := false, apart := false, narrowed := true }
def ShapeSameUptoSaid : Prop := shapeSameUptoRow.holds Try.pinned (OpenSpec.upto shapeSameSpec)

/-- 'pandectlaw13.GradualMoves', WHERE WHAT IT READS IS OF BULK AT MOST 1048576: true; the input reads as it did. -/
def gradualMovesUptoRow : OpenClaim := { program := "yteehllhldaopjaa", sum := "4392fb0a62008e12701c868bc23a7db1588da5b06b545215515bcc9d42a34532", func := "pandect/pandectlaw13.GradualMoves", spec := "gradualMoves", inPlace := ["internal/bytealg.abigen_runtime_cmpstring"], unfollowed := true, recurses := true, loops := true, plainKeys := false, apart := false, narrowed := true }
def GradualMovesUptoSaid : Prop := gradualMovesUptoRow.holds Try.pinned (OpenSpec.upto gradualMovesSpec)

/-- 'pandectlaw13.GradualAlike', WHERE WHAT IT READS IS OF BULK AT MOST 1048576: true; the input reads as it did. -/
def gradualAlikeUptoRow : OpenClaim := { program := "yteehllhldaopjaa", sum := "4392fb0a62008e12701c868bc23a7db1588da5b06b545215515bcc9d42a34532", func := "pandect/pandectlaw13.GradualAlike", spec := "gradualAlike", inPlace := ["internal/bytealg.abigen_runtime_cmpstring"], unfollowed := true, recurses := true, loops := true, plainKeys := false, apart := false, narrowed := true }
def GradualAlikeUptoSaid : Prop := gradualAlikeUptoRow.holds Try.pinned (OpenSpec.upto gradualAlikeSpec)

/-- 'pandectlaw13.GradualThrough', WHERE WHAT IT READS IS OF BULK AT MOST 1048576: true; the input reads as it did. -/
def gradualThroughUptoRow : OpenClaim := { program := "yteehllhldaopjaa", sum := "4392fb0a62008e12701c868bc23a7db1588da5b06b545215515bcc9d42a34532", func := "pandect/pandectlaw13.GradualThrough", spec := "gradualThrough", inPlace := ["internal/bytealg.abigen_runtime_cmpstring"], unfollowed := true, recurses := true, loops := true, plainKeys := false, apart := false, narrowed := true }
def GradualThroughUptoSaid : Prop := gradualThroughUptoRow.holds Try.pinned (OpenSpec.upto gradualThroughSpec)

/-- 'pandectlaw13.GradualWitness', WHERE WHAT IT READS IS OF BULK AT MOST 1048576: true; the input reads as it did. -/
def gradualWitnessUptoRow : OpenClaim := { program := "yteehllhldaopjaa", sum := "4392fb0a62008e12701c868bc23a7db1588da5b06b545215515bcc9d42a34532", func := "pandect/pandectlaw13.GradualWitness", spec := "gradualWitness", inPlace := ["internal/bytealg.abigen_runtime_cmpstring"], unfollowed := true, recurses := true, loops := true, plainKeys := false, apart := false, narrowed := true }
def GradualWitnessUptoSaid : Prop := gradualWitnessUptoRow.holds Try.pinned (OpenSpec.upto gradualWitnessSpec)

/-- 'pandectlaw12.SubtypeOrder', WHERE WHAT IT READS IS OF BULK AT MOST 1048576: true; the input reads as it did. -/
def subtypeOrderUptoRow : OpenClaim := { program := "yteehllhldaopjaa", sum := "4392fb0a62008e12701c868bc23a7db1588da5b06b545215515bcc9d42a34532", func := "pandect/pandectlaw12.SubtypeOrder", spec := "subtypeOrder", inPlace := ["maps.clone", "internal/bytealg.abigen_runtime_cmpstring"], unfollowed := true, recurses := true, loops := true, plainKeys := false, apart := false, narrowed := true }
def SubtypeOrderUptoSaid : Prop := subtypeOrderUptoRow.holds Try.pinned (OpenSpec.upto subtypeOrderSpec)

/-- 'pandectlaw12.SubtypeBoth', WHERE WHAT IT READS IS OF BULK AT MOST 1048576: true; the input reads as it did. -/
def subtypeBothUptoRow : OpenClaim := { program := "yteehllhldaopjaa", sum := "4392fb0a62008e12701c868bc23a7db1588da5b06b545215515bcc9d42a34532", func := "pandect/pandectlaw12.SubtypeBoth", spec := "subtypeBoth", inPlace := ["maps.clone", "internal/bytealg.abigen_runtime_cmpstring"], unfollowed := true, recurses := true, loops := true, plainKeys := false, apart := false, narrowed := true }
def SubtypeBothUptoSaid : Prop := subtypeBothUptoRow.holds Try.pinned (OpenSpec.upto subtypeBothSpec)

/-- 'pandectlaw13.GradualPlain', WHERE WHAT IT READS IS OF BULK AT MOST 1048576: true; the input reads as it did. -/
def gradualPlainUptoRow : OpenClaim := { program := "yteehllhldaopjaa", sum := "4392fb0a62008e12701c868bc23a7db1588da5b06b545215515bcc9d42a34532", func := "pandect/pandectlaw13.GradualPlain", spec := "gradualPlain", inPlace := ["internal/bytealg.abigen_runtime_cmpstring"], unfollowed := true, recurses := true, loops := true, plainKeys := false, apart := false, narrowed := true }
def GradualPlainUptoSaid : Prop := gradualPlainUptoRow.holds Try.pinned (OpenSpec.upto gradualPlainSpec)

end Rows
end Go.Proofs.Yteehllhldaopjaa
