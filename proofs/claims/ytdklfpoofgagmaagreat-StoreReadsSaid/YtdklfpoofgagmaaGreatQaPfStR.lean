/- The rows of the laws StoreReads: every input, whatever its size. Conditions: none. -/
import Derived.Test.YtdklfpoofgagmaaGreatRows
import Derived.Test.YtdklfpoofgagmaaGreatQaWal8
import Derived.Test.YtdklfpoofgagmaaGreatQaRx1
namespace Go.Proofs.YtdklfpoofgagmaaGreat
open Go.Gx Go.ChangeShapes Go.WideShapes Go.ChangeAt Go.RowKit
theorem own_none:ownKnob Tryz.prog.godebug=none:=by kernel_rfl
theorem laid_out:laidOutB Tryz.prog=true:=by kernel_rfl
set_option maxRecDepth 100000 in
theorem storeReads_lifted (os:Os) (started:os.Started) (H:Type) (enc:TypeId × Value→H):
    ReturnsInHanded {} Tryz.checked os 3 .any (Rows.storeReadsSpec.pre6 enc Tryz.prog Tryz.f3 Rows.storeReadsRow.domain false) (Rows.storeReadsSpec.post enc Tryz.prog Tryz.f3 false true false false):=by
  refine lifted_of (C:=Tryz.checked) (ts:=[22]) (tb:=4) (fun t W v=>if t=22 then (∃ l,StrsAt (fun _=>False) W v l) else True) (by show Tryz.f3.params.toList=_;rw [Tryz.params3]) rfl (by kernel_rfl) Tryz.underlying4 laid_out ?_ ?_ own_none started (by kernel_rfl) Tryz.func3
    (ChangeSpec.witness6 (enc:=enc) (C:=Tryz.checked) false ⟨#[],#[.slice none 0 0],[]⟩ 8 (by kernel_rfl) (by kernel_rfl) (by kernel_rfl) (by kernel_rfl)) ?_ ?_
  · intro t ht;simp only [List.mem_cons,List.not_mem_nil,or_false] at ht;rcases ht with rfl <;> exact ⟨by kernel_rfl,of_decide_eq_true (by kernel_rfl)⟩
  · intro ds hd
    match ds,hd with
    | [a0],_=>rfl
  · intro t ht W base v d p hv h hw;simp only [List.mem_cons,List.not_mem_nil,or_false] at ht;rcases ht with ht
    · subst ht;(try dsimp only);rw [if_pos rfl];exact strsl_arg Tryz.underlying22 Tryz.underlying9 (by kernel_rfl) (Nat.le_of_ble_eq_true (by kernel_rfl)) hv h hw
  · intro w vs hs
    match vs,hs with
    | [v0],⟨p0,_⟩=>
    have q0:=p0
    (try dsimp only at q0)
    rw [if_pos rfl] at q0;obtain ⟨a0,ha0⟩:=q0;exact law_reads23 _ a0 v0 w ha0
set_option maxHeartbeats 8000000 in
theorem storeReads_closed:joinedFacts Tryz.prog 3 Tryz.f3 Rows.storeReadsSpec Rows.storeReadsRow=true:=by
  simp only [joinedFacts,Bool.and_eq_true]
  and_intros <;> as_aux_lemma=>kernel_rfl
theorem storeReads_holds:Rows.StoreReadsSaid:=
  OpenClaim.holds_of_wide 3 Tryz.f3 rfl rfl rfl rfl rfl rfl rfl ⟨rfl,rfl,rfl,rfl,rfl⟩ rfl rfl rfl rfl rfl (by kernel_rfl) Tryz.func3 storeReads_closed
    (of_decide_eq_true (by kernel_rfl)) (by unfold Func.isWrapper;first | (rw [if_pos (by decide +kernel)];kernel_rfl) | (rw [if_neg (by decide +kernel)];exact ⟨rfl,rfl⟩))
    (fun os started H enc _=>storeReads_lifted os started H enc)
end Go.Proofs.YtdklfpoofgagmaaGreat
