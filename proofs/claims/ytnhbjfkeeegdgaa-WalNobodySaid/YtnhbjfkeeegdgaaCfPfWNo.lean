/- The rows of the laws WalNobody: every input, whatever its size. Conditions: none. -/
import Derived.Test.YtnhbjfkeeegdgaaRows
import Derived.Test.YtnhbjfkeeegdgaaCfWal9
namespace Go.Proofs.Ytnhbjfkeeegdgaa
open Go.Gx Go.ChangeShapes Go.WideShapes Go.ChangeAt Go.RowKit
theorem own_none : ownKnob Try.prog.godebug = none := by kernel_rfl
theorem laid_out : laidOutB Try.prog = true := by kernel_rfl
set_option maxRecDepth 100000 in
theorem walNobody_lifted (os : Os) (started : os.Started) (H : Type) (enc : TypeId × Value → H) :
    ReturnsInHanded {} Try.checked os 5 .any (Rows.walNobodySpec.pre6 enc Try.prog Try.f5 Rows.walNobodyRow.domain false) (Rows.walNobodySpec.post enc Try.prog Try.f5 false true false false) := by
  refine lifted_of (C := Try.checked) (ts := [37]) (tb := 4) (fun t W v => if t = 37 then (∃ l, StrsAt (fun _ => False) W v l) else True) (by show Try.f5.params.toList = _; rw [Try.params5]) rfl (by kernel_rfl) Try.underlying4 laid_out ?_ ?_ own_none started (by kernel_rfl) Try.func5
    (ChangeSpec.witness6 (enc := enc) (C := Try.checked) false ⟨#[], #[.slice none 0 0], []⟩ 8 (by kernel_rfl) (by kernel_rfl) (by kernel_rfl) (by kernel_rfl)) ?_ ?_
  · intro t ht
    simp only [List.mem_cons, List.not_mem_nil, or_false] at ht
    rcases ht with rfl <;> exact ⟨by kernel_rfl, of_decide_eq_true (by kernel_rfl)⟩
  · intro ds hd
    match ds, hd with
    | [a0], _ => rfl
  · intro t ht W base v d p hv h hw
    simp only [List.mem_cons, List.not_mem_nil, or_false] at ht
    rcases ht with ht
    · subst ht; (try dsimp only); rw [if_pos rfl]; exact strsl_arg Try.underlying37 Try.underlying9 (by kernel_rfl) (Nat.le_of_ble_eq_true (by kernel_rfl)) hv h hw
  · intro w vs hs
    match vs, hs with
    | [v0], ⟨p0, _⟩ =>
    have q0 := p0
    (try dsimp only at q0)
    rw [if_pos rfl] at q0
    obtain ⟨a0, ha0⟩ := q0
    exact law_nobody21 _ a0 v0 w ha0
set_option maxHeartbeats 8000000 in
theorem walNobody_closed : joinedFacts Try.prog 5 Try.f5 Rows.walNobodySpec Rows.walNobodyRow = true := by
  simp only [joinedFacts, Bool.and_eq_true]
  and_intros <;> as_aux_lemma => kernel_rfl
theorem walNobody_holds : Rows.WalNobodySaid :=
  OpenClaim.holds_of_wide 5 Try.f5 rfl rfl rfl rfl rfl rfl rfl ⟨rfl, rfl, rfl, rfl, rfl⟩ rfl rfl rfl rfl rfl (by kernel_rfl) Try.func5 walNobody_closed
    (of_decide_eq_true (by kernel_rfl)) (by unfold Func.isWrapper; first | (rw [if_pos (by decide +kernel)]; kernel_rfl) | (rw [if_neg (by decide +kernel)]; exact ⟨rfl, rfl⟩))
    (fun os started H enc _ => walNobody_lifted os started H enc)
end Go.Proofs.Ytnhbjfkeeegdgaa
