/- The rows of the laws WalCrash: every input, whatever its size. Conditions: none. -/
import Derived.Test.YtfbcmonbmkafpaaRows
import Derived.Test.YtfbcmonbmkafpaaCjWal9
import Derived.Test.YtfbcmonbmkafpaaCjCrs6
namespace Go.Proofs.Ytfbcmonbmkafpaa
open Go.Gx Go.ChangeShapes Go.WideShapes Go.ChangeAt Go.RowKit
theorem own_none : ownKnob Try.prog.godebug = none := by kernel_rfl
theorem laid_out : laidOutB Try.prog = true := by kernel_rfl
theorem wcT : ∃ g0 g1 g2 g3, WcT Try.prog 51 40 9 g0 g1 g2 g3 :=
  ⟨_, _, _, _, { hB := Try.underlying51, h0 := Try.underlying3, h1 := Try.underlying22, hs := Try.underlying9, h2 := Try.underlying3, h3 := rfl, o := ⟨rfl, rfl, rfl, rfl⟩, c := ⟨by kernel_rfl, by kernel_rfl, by kernel_rfl, by kernel_rfl, by kernel_rfl, by kernel_rfl, Nat.le_of_ble_eq_true (by kernel_rfl)⟩ }⟩
theorem faT : ∃ g0 g1 g2, FaT Try.prog 40 4 g0 g1 g2 :=
  ⟨_, _, _, { hB := Try.underlying40, h0 := Try.underlying38, hb := Try.underlying4, h1 := Try.underlying3, h2 := Try.underlying3, o := ⟨rfl, rfl, rfl⟩, c := ⟨by kernel_rfl, by kernel_rfl, by kernel_rfl, by kernel_rfl, by kernel_rfl, Nat.le_of_ble_eq_true (by kernel_rfl)⟩ }⟩
set_option maxRecDepth 100000 in
theorem walCrash_lifted (os : Os) (started : os.Started) (H : Type) (enc : TypeId × Value → H) :
    ReturnsInHanded {} Try.checked os 6 .any (Rows.walCrashSpec.pre6 enc Try.prog Try.f6 Rows.walCrashRow.domain false) (Rows.walCrashSpec.post enc Try.prog Try.f6 false true false false) := by
  refine lifted_of (C := Try.checked) (ts := [3, 45]) (tb := 4) (fun t W v => if t = 3 then (∃ n : Int, v = .int .i64 n ∧ True) else if t = 45 then (∃ l, RecsAt WcC 6 (fun _ => False) W v l ∧ ∀ i, i < l.length → (l.getD i default).at' ≤ 9223372036854775807) else True) (by show Try.f6.params.toList = _; rw [Try.params6]) rfl (by kernel_rfl) Try.underlying4 laid_out ?_ ?_ own_none started (by kernel_rfl) Try.func6
    (ChangeSpec.witness6 (enc := enc) (C := Try.checked) false ⟨#[], #[.int .i64 0, .slice none 0 0], []⟩ 8 (by kernel_rfl) (by kernel_rfl) (by kernel_rfl) (by kernel_rfl)) ?_ ?_
  · intro t ht
    simp only [List.mem_cons, List.not_mem_nil, or_false] at ht
    rcases ht with rfl | rfl <;> exact ⟨by kernel_rfl, of_decide_eq_true (by kernel_rfl)⟩
  · intro ds hd
    match ds, hd with
    | [a0, a1], _ => rfl
  · intro t ht W base v d p hv h hw
    simp only [List.mem_cons, List.not_mem_nil, or_false] at ht
    rcases ht with ht | ht
    · subst ht; (try dsimp only); rw [if_pos rfl]; exact int_arg Try.underlying3 hv h
    · subst ht; (try dsimp only); rw [if_neg (by decide)]; rw [if_pos rfl]; exact (by obtain ⟨q0, q1, q2, q3, E⟩ := wcT; obtain ⟨r0, r1, r2, A⟩ := faT; exact wds_arg Try.underlying45 (Nat.le_of_ble_eq_true (by kernel_rfl)) E A hv h hw)
  · intro w vs hs
    match vs, hs with
    | [v0, v1], ⟨p0, p1, _⟩ =>
    have q0 := p0
    (try dsimp only at q0)
    rw [if_pos rfl] at q0
    obtain ⟨a0, rfl, ha0⟩ := q0
    have q1 := p1
    (try dsimp only at q1)
    rw [if_neg (by decide)] at q1; rw [if_pos rfl] at q1
    obtain ⟨a1, ha1⟩ := q1
    exact law_crash21 _ a0 a1 v1 w ha0 ha1
set_option maxHeartbeats 8000000 in
theorem walCrash_closed : joinedFacts Try.prog 6 Try.f6 Rows.walCrashSpec Rows.walCrashRow = true := by
  simp only [joinedFacts, Bool.and_eq_true]
  and_intros <;> as_aux_lemma => kernel_rfl
theorem walCrash_holds : Rows.WalCrashSaid :=
  OpenClaim.holds_of_wide 6 Try.f6 rfl rfl rfl rfl rfl rfl rfl ⟨rfl, rfl, rfl, rfl, rfl⟩ rfl rfl rfl rfl rfl (by kernel_rfl) Try.func6 walCrash_closed
    (of_decide_eq_true (by kernel_rfl)) (by unfold Func.isWrapper; first | (rw [if_pos (by decide +kernel)]; kernel_rfl) | (rw [if_neg (by decide +kernel)]; exact ⟨rfl, rfl⟩))
    (fun os started H enc _ => walCrash_lifted os started H enc)
end Go.Proofs.Ytfbcmonbmkafpaa
