/- The rows of the laws GraphOrder: every input, whatever its size. Conditions: none. -/
import Derived.Test.YtigcdmnhmfeioaaRows
import Derived.Test.YtigcdmnhmfeioaaGfRec
import Derived.Test.YtigcdmnhmfeioaaGfDrawG
import Derived.Test.YtigcdmnhmfeioaaGfLawGrQ
namespace Go.Proofs.Ytigcdmnhmfeioaa
open Go.Gx Go.ChangeShapes Go.WideShapes Go.ChangeAt Go.RowKit
theorem own_none:ownKnob Try.prog.godebug=none:=by kernel_rfl
theorem laid_out:laidOutB Try.prog=true:=by kernel_rfl
theorem arT:∃ g0 g1,ArT Try.prog 36 g0 g1:=
  ⟨_,_,{ hB:=Try.underlying36,h0:=Try.underlying9,h1:=Try.underlying9,o:=⟨rfl,rfl⟩,c:=⟨by kernel_rfl,by kernel_rfl,by kernel_rfl⟩ }⟩
set_option maxRecDepth 100000 in
theorem graphOrder_lifted (os:Os) (started:os.Started) (H:Type) (enc:TypeId × Value→H):
    ReturnsInHanded {} Try.checked os 8 .any (Rows.graphOrderSpec.pre6 enc Try.prog Try.f8 Rows.graphOrderRow.domain false) (Rows.graphOrderSpec.post enc Try.prog Try.f8 false true false false):=by
  refine lifted_of (C:=Try.checked) (ts:=[23,22]) (tb:=4) (fun t W v=>if t=23 then (∃ l,StrsAt (fun _=>False) W v l) else if t=22 then (∃ l,ArcsAt (fun _=>False) W v l) else True) (by show Try.f8.params.toList=_;rw [Try.params8]) rfl (by kernel_rfl) Try.underlying4 laid_out ?_ ?_ own_none started (by kernel_rfl) Try.func8
    (ChangeSpec.witness6 (enc:=enc) (C:=Try.checked) false ⟨#[],#[.slice none 0 0,.slice none 0 0],[]⟩ 8 (by kernel_rfl) (by kernel_rfl) (by kernel_rfl) (by kernel_rfl)) ?_ ?_
  · intro t ht;simp only [List.mem_cons,List.not_mem_nil,or_false] at ht;rcases ht with rfl | rfl <;> exact ⟨by kernel_rfl,of_decide_eq_true (by kernel_rfl)⟩
  · intro ds hd
    match ds,hd with
    | [a0,a1],_=>rfl
  · intro t ht W base v d p hv h hw;simp only [List.mem_cons,List.not_mem_nil,or_false] at ht;rcases ht with ht | ht
    · subst ht;(try dsimp only);rw [if_pos rfl];exact strsl_argU Try.underlying23 Try.underlying9 (by kernel_rfl) (Nat.le_of_ble_eq_true (by kernel_rfl)) hv h hw
    · subst ht;(try dsimp only);rw [if_neg (by decide)];rw [if_pos rfl];exact (by obtain ⟨q0,q1,E⟩:=arT;exact ars_arg Try.underlying22 (Nat.le_of_ble_eq_true (by kernel_rfl)) E hv h hw)
  · intro w vs hs
    match vs,hs with
    | [v0,v1],⟨p0,p1,_⟩=>
    have q0:=p0
    (try dsimp only at q0)
    rw [if_pos rfl] at q0;obtain ⟨a0,ha0⟩:=q0;have q1:=p1
    (try dsimp only at q1)
    rw [if_neg (by decide)] at q1;rw [if_pos rfl] at q1;obtain ⟨a1,ha1⟩:=q1;exact order_law _ _ a0 a1 v0 v1 w ha0 ha1
set_option maxHeartbeats 8000000 in
theorem graphOrder_closed:joinedFacts Try.prog 8 Try.f8 Rows.graphOrderSpec Rows.graphOrderRow=true:=by
  simp only [joinedFacts,Bool.and_eq_true]
  and_intros <;> as_aux_lemma=>kernel_rfl
theorem graphOrder_holds:Rows.GraphOrderSaid:=
  OpenClaim.holds_of_wide 8 Try.f8 rfl rfl rfl rfl rfl rfl rfl ⟨rfl,rfl,rfl,rfl,rfl⟩ rfl rfl rfl rfl rfl (by kernel_rfl) Try.func8 graphOrder_closed
    (of_decide_eq_true (by kernel_rfl)) (by unfold Func.isWrapper;first | (rw [if_pos (by decide +kernel)];kernel_rfl) | (rw [if_neg (by decide +kernel)];exact ⟨rfl,rfl⟩))
    (fun os started H enc _=>graphOrder_lifted os started H enc)
end Go.Proofs.Ytigcdmnhmfeioaa
