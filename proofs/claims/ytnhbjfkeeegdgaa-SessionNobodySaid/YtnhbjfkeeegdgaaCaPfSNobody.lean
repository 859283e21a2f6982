/- The rows of the laws SessionNobody: every input, whatever its size. Conditions: none. -/
import Derived.Test.YtnhbjfkeeegdgaaRows
import Derived.Test.YtnhbjfkeeegdgaaCaSesO
import Derived.Test.YtnhbjfkeeegdgaaCaSesW
namespace Go.Proofs.Ytnhbjfkeeegdgaa
open Go.Gx Go.ChangeShapes Go.WideShapes Go.ChangeAt Go.RowKit
theorem own_none : ownKnob Try.prog.godebug = none := by kernel_rfl
theorem laid_out : laidOutB Try.prog = true := by kernel_rfl
theorem edT : ∃ g0 g1 g2, EdT Try.prog 34 g0 g1 g2 :=
  ⟨_, _, _, { hB := Try.underlying34, h0 := Try.underlying9, h1 := Try.underlying9, h2 := Try.underlying4, o := ⟨rfl, rfl, rfl⟩, c := ⟨by kernel_rfl, by kernel_rfl, by kernel_rfl, by kernel_rfl⟩ }⟩
theorem acT : ∃ g0 g1 g2, AcT Try.prog 36 34 g0 g1 g2 :=
  ⟨_, _, _, { hB := Try.underlying36, h0 := Try.underlying3, h1 := Try.underlying3, h2 := rfl, o := ⟨rfl, rfl, rfl⟩, c := ⟨by kernel_rfl, by kernel_rfl, by kernel_rfl, by kernel_rfl⟩ }⟩
set_option maxRecDepth 100000 in
theorem sessionNobody_lifted (os : Os) (started : os.Started) (H : Type) (enc : TypeId × Value → H) :
    ReturnsInHanded {} Try.checked os 9 .any (Rows.sessionNobodySpec.pre6 enc Try.prog Try.f9 Rows.sessionNobodyRow.domain false) (Rows.sessionNobodySpec.post enc Try.prog Try.f9 false true false false) := by
  refine lifted_of (C := Try.checked) (ts := [36]) (tb := 4) (fun t W v => if t = 36 then (∃ a, v = .agg (acV a).toArray ∧ EdOk a.ed) else True) (by show Try.f9.params.toList = _; rw [Try.params9]) rfl (by kernel_rfl) Try.underlying4 laid_out ?_ ?_ own_none started (by kernel_rfl) Try.func9
    (ChangeSpec.witness6 (enc := enc) (C := Try.checked) false ⟨#[], #[.agg #[.int .i64 0, .int .i64 0, .string ⟨#[]⟩, .string ⟨#[]⟩, .bool false]], []⟩ 8 (by kernel_rfl) (by kernel_rfl) (by kernel_rfl) (by kernel_rfl)) ?_ ?_
  · intro t ht
    simp only [List.mem_cons, List.not_mem_nil, or_false] at ht
    rcases ht with rfl <;> exact ⟨by kernel_rfl, of_decide_eq_true (by kernel_rfl)⟩
  · intro ds hd
    match ds, hd with
    | [a0], _ => rfl
  · intro t ht W base v d p hv h hw
    simp only [List.mem_cons, List.not_mem_nil, or_false] at ht
    rcases ht with ht
    · subst ht; (try dsimp only); rw [if_pos rfl]; exact (by obtain ⟨q0, q1, q2, E⟩ := edT; obtain ⟨r0, r1, r2, A⟩ := acT; exact ac_arg A E hv h hw)
  · intro w vs hs
    match vs, hs with
    | [v0], ⟨p0, _⟩ =>
    have q0 := p0
    (try dsimp only at q0)
    rw [if_pos rfl] at q0
    obtain ⟨a0, rfl, ha0⟩ := q0
    exact law_nobody a0 w ha0
set_option maxHeartbeats 8000000 in
theorem sessionNobody_closed : joinedFacts Try.prog 9 Try.f9 Rows.sessionNobodySpec Rows.sessionNobodyRow = true := by
  simp only [joinedFacts, Bool.and_eq_true]
  and_intros <;> as_aux_lemma => kernel_rfl
theorem sessionNobody_holds : Rows.SessionNobodySaid :=
  OpenClaim.holds_of_wide 9 Try.f9 rfl rfl rfl rfl rfl rfl rfl ⟨rfl, rfl, rfl, rfl, rfl⟩ rfl rfl rfl rfl rfl (by kernel_rfl) Try.func9 sessionNobody_closed
    (of_decide_eq_true (by kernel_rfl)) (by unfold Func.isWrapper; first | (rw [if_pos (by decide +kernel)]; kernel_rfl) | (rw [if_neg (by decide +kernel)]; exact ⟨rfl, rfl⟩))
    (fun os started H enc _ => sessionNobody_lifted os started H enc)
end Go.Proofs.Ytnhbjfkeeegdgaa
