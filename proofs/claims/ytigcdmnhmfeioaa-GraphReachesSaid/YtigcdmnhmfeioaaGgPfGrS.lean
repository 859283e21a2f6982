/- The rows of the laws GraphReaches: every input, whatever its size. Conditions: none. -/
import Derived.Test.YtigcdmnhmfeioaaRows
import Derived.Test.YtigcdmnhmfeioaaGgRec
import Derived.Test.YtigcdmnhmfeioaaGgDrawG
import Derived.Test.YtigcdmnhmfeioaaGgLawGrS
namespace Go.Proofs.Ytigcdmnhmfeioaa
open Go.Gx Go.ChangeShapes Go.WideShapes Go.ChangeAt Go.RowKit
theorem own_none:ownKnob Try.prog.godebug=none:=by kernel_rfl
theorem laid_out:laidOutB Try.prog=true:=by kernel_rfl
theorem arT:∃ g0 g1,ArT Try.prog 36 g0 g1:=
  ⟨_,_,{ hB:=Try.underlying36,h0:=Try.underlying9,h1:=Try.underlying9,o:=⟨rfl,rfl⟩,c:=⟨by kernel_rfl,by kernel_rfl,by kernel_rfl⟩ }⟩
set_option maxRecDepth 100000 in
theorem graphReaches_lifted (os:Os) (started:os.Started) (H:Type) (enc:TypeId × Value→H):
    ReturnsInHanded {} Try.checked os 3 .any (Rows.graphReachesSpec.pre6 enc Try.prog Try.f3 Rows.graphReachesRow.domain false) (Rows.graphReachesSpec.post enc Try.prog Try.f3 false true false false):=by
  refine lifted_of (C:=Try.checked) (ts:=[22,23,9]) (tb:=4) (fun t W v=>if t=22 then (∃ l,ArcsAt (fun _=>False) W v l) else if t=23 then (∃ l,StrsAt (fun _=>False) W v l) else if t=9 then (∃ s:Str,v=S s∧s.length≤9223372036854775807) else True) (by show Try.f3.params.toList=_;rw [Try.params3]) rfl (by kernel_rfl) Try.underlying4 laid_out ?_ ?_ own_none started (by kernel_rfl) Try.func3
    (ChangeSpec.witness6 (enc:=enc) (C:=Try.checked) false ⟨#[],#[.slice none 0 0,.slice none 0 0,.string ⟨#[]⟩],[]⟩ 8 (by kernel_rfl) (by kernel_rfl) (by kernel_rfl) (by kernel_rfl)) ?_ ?_
  · intro t ht;simp only [List.mem_cons,List.not_mem_nil,or_false] at ht;rcases ht with rfl | rfl | rfl <;> exact ⟨by kernel_rfl,of_decide_eq_true (by kernel_rfl)⟩
  · intro ds hd
    match ds,hd with
    | [a0,a1,a2],_=>rfl
  · intro t ht W base v d p hv h hw;simp only [List.mem_cons,List.not_mem_nil,or_false] at ht;rcases ht with ht | ht | ht
    · subst ht;(try dsimp only);rw [if_pos rfl];exact (by obtain ⟨q0,q1,E⟩:=arT;exact ars_arg Try.underlying22 (Nat.le_of_ble_eq_true (by kernel_rfl)) E hv h hw)
    · subst ht;(try dsimp only);rw [if_neg (by decide)];rw [if_pos rfl];exact strsl_argU Try.underlying23 Try.underlying9 (by kernel_rfl) (Nat.le_of_ble_eq_true (by kernel_rfl)) hv h hw
    · subst ht;(try dsimp only);rw [if_neg (by decide)];rw [if_neg (by decide)];rw [if_pos rfl];exact str_argU Try.underlying9 hv h
  · intro w vs hs
    match vs,hs with
    | [v0,v1,v2],⟨p0,p1,p2,_⟩=>
    have q0:=p0
    (try dsimp only at q0)
    rw [if_pos rfl] at q0;obtain ⟨a0,ha0⟩:=q0;have q1:=p1
    (try dsimp only at q1)
    rw [if_neg (by decide)] at q1;rw [if_pos rfl] at q1;obtain ⟨a1,ha1⟩:=q1;have q2:=p2
    (try dsimp only at q2)
    rw [if_neg (by decide)] at q2;rw [if_neg (by decide)] at q2;rw [if_pos rfl] at q2;obtain ⟨a2,rfl,ha2⟩:=q2;exact reaches_law _ _ a0 a1 a2 v0 v1 w ha0 ha1 ha2
set_option maxHeartbeats 8000000 in
theorem graphReaches_closed:joinedFacts Try.prog 3 Try.f3 Rows.graphReachesSpec Rows.graphReachesRow=true:=by
  simp only [joinedFacts,Bool.and_eq_true]
  and_intros <;> as_aux_lemma=>kernel_rfl
theorem graphReaches_holds:Rows.GraphReachesSaid:=
  OpenClaim.holds_of_wide 3 Try.f3 rfl rfl rfl rfl rfl rfl rfl ⟨rfl,rfl,rfl,rfl,rfl⟩ rfl rfl rfl rfl rfl (by kernel_rfl) Try.func3 graphReaches_closed
    (of_decide_eq_true (by kernel_rfl)) (by unfold Func.isWrapper;first | (rw [if_pos (by decide +kernel)];kernel_rfl) | (rw [if_neg (by decide +kernel)];exact ⟨rfl,rfl⟩))
    (fun os started H enc _=>graphReaches_lifted os started H enc)
end Go.Proofs.Ytigcdmnhmfeioaa
