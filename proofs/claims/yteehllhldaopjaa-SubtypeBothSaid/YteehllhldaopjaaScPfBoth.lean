/- The rows of the laws SubtypeBoth: every input, whatever its size. Conditions: none. -/
import Derived.Test.YteehllhldaopjaaRows
import Derived.Test.YteehllhldaopjaaScRep
import Derived.Test.YteehllhldaopjaaScLawSub2
namespace Go.Proofs.Yteehllhldaopjaa
open Go.Gx Go.ChangeShapes Go.WideShapes Go.ChangeAt Go.RowKit
theorem own_none : ownKnob Try.prog.godebug = none := by kernel_rfl
theorem laid_out : laidOutB Try.prog = true := by kernel_rfl
theorem shT : ∃ f0 f1 f2 f3 f4, ShT Try.prog 25 9 f0 f1 f2 f3 f4 :=
  ⟨_, _, _, _, _, { hS := Try.underlying25, h0 := Try.underlying3, h1 := Try.underlying9, h2 := Try.underlying9, h3 := Try.underlying22, hN := Try.underlying9, h4 := Try.underlying23, o := ⟨rfl, rfl, rfl, rfl, rfl⟩, c := ⟨by kernel_rfl, by kernel_rfl, by kernel_rfl, by kernel_rfl, by kernel_rfl⟩, cS := by kernel_rfl, cN := by kernel_rfl, bS := Nat.le_of_ble_eq_true (by kernel_rfl), bN := Nat.le_of_ble_eq_true (by kernel_rfl) }⟩
set_option maxRecDepth 100000 in
theorem subtypeBoth_lifted (os : Os) (started : os.Started) (H : Type) (enc : TypeId × Value → H) :
    ReturnsInHanded {} Try.checked os 21 .any (Rows.subtypeBothSpec.pre6 enc Try.prog Try.f21 Rows.subtypeBothRow.domain false) (Rows.subtypeBothSpec.post enc Try.prog Try.f21 false true false false) := by
  obtain ⟨f0, f1, f2, f3, f4, T⟩ := shT
  refine lifted_shapes (C := Try.checked) (n := 2) (tb := 4) T (by show Try.f21.params.toList = _; rw [Try.params21]; rfl) rfl (by kernel_rfl) Try.underlying4 laid_out (by kernel_rfl) (of_decide_eq_true (by kernel_rfl)) ?_ own_none started (by kernel_rfl) Try.func21
    (ChangeSpec.witness6 (enc := enc) (C := Try.checked) false ⟨#[], #[.agg #[.int .i64 0, .string ⟨#[]⟩, .string ⟨#[]⟩, .slice none 0 0, .slice none 0 0], .agg #[.int .i64 0, .string ⟨#[]⟩, .string ⟨#[]⟩, .slice none 0 0, .slice none 0 0]], []⟩ 8 (by kernel_rfl) (by kernel_rfl) (by kernel_rfl) (by kernel_rfl)) ?_
  · intro ds hd
    match ds, hd with
    | [x0, x1], _ => rfl
  · intro w l hl hs
    match l, hl with
    | [x0, x1], _ => exact law_both _ _ x0.2 x1.2 x0.1 x1.1 w (hs x0 (by simp)) (hs x1 (by simp))
set_option maxHeartbeats 8000000 in
theorem subtypeBoth_closed : joinedFacts Try.prog 21 Try.f21 Rows.subtypeBothSpec Rows.subtypeBothRow = true := by
  simp only [joinedFacts, Bool.and_eq_true]
  and_intros <;> as_aux_lemma => kernel_rfl
theorem subtypeBoth_holds : Rows.SubtypeBothSaid :=
  OpenClaim.holds_of_wide 21 Try.f21 rfl rfl rfl rfl rfl rfl rfl ⟨rfl, rfl, rfl, rfl, rfl⟩ rfl rfl rfl rfl rfl (by kernel_rfl) Try.func21 subtypeBoth_closed
    (of_decide_eq_true (by kernel_rfl)) (by unfold Func.isWrapper; first | (rw [if_pos (by decide +kernel)]; kernel_rfl) | (rw [if_neg (by decide +kernel)]; exact ⟨rfl, rfl⟩))
    (fun os started H enc _ => subtypeBoth_lifted os started H enc)
end Go.Proofs.Yteehllhldaopjaa
