/- The rows of the laws IfaceEncodes, IfaceDecodes, IfaceShows, IfaceBack, IfaceForms, IfaceTexts: every input, whatever its size. Conditions: none. -/
import Derived.Test.YtcncoaabbedhfaaGreatRows
import Derived.Test.YtcncoaabbedhfaaGreatCbRowG
import Derived.Test.YtcncoaabbedhfaaGreatCbDrawD
import Derived.Test.YtcncoaabbedhfaaGreatCbLawIf
namespace Go.Proofs.YtcncoaabbedhfaaGreat
open Go.Gx Go.ChangeShapes Go.WideShapes Go.ChangeAt Go.RowKit
theorem own_none:ownKnob Tryz.prog.godebug=none:=by kernel_rfl
theorem laid_out:laidOutB Tryz.prog=true:=by kernel_rfl
theorem shT:∃ f0 f1 f2 f3 f4,ShT Tryz.prog 41 9 f0 f1 f2 f3 f4:=
  ⟨_,_,_,_,_,{ hS:=Tryz.underlying41,h0:=Tryz.underlying3,h1:=Tryz.underlying9,h2:=Tryz.underlying9,h3:=Tryz.underlying38,hN:=Tryz.underlying9,h4:=Tryz.underlying39,o:=⟨rfl,rfl,rfl,rfl,rfl⟩,c:=⟨by kernel_rfl,by kernel_rfl,by kernel_rfl,by kernel_rfl,by kernel_rfl⟩,cS:=by kernel_rfl,cN:=by kernel_rfl,bS:=Nat.le_of_ble_eq_true (by kernel_rfl),bN:=Nat.le_of_ble_eq_true (by kernel_rfl) }⟩
theorem itT:∃ g0 g1 g2,ItT Tryz.prog 43 41 g0 g1 g2:=
  ⟨_,_,_,{ hB:=Tryz.underlying43,h0:=Tryz.underlying3,h1:=Tryz.underlying9,h2:=rfl,o:=⟨rfl,rfl,rfl⟩,c:=⟨by kernel_rfl,by kernel_rfl,by kernel_rfl,by kernel_rfl⟩ }⟩
set_option maxRecDepth 100000 in
theorem ifaceEncodes_lifted (os:Os) (started:os.Started) (H:Type) (enc:TypeId × Value→H):
    ReturnsInHanded {} Tryz.checked os 3 .any (Rows.ifaceEncodesSpec.pre6 enc Tryz.prog Tryz.f3 Rows.ifaceEncodesRow.domain false) (Rows.ifaceEncodesSpec.post enc Tryz.prog Tryz.f3 false true false false):=by
  obtain ⟨f0,f1,f2,f3,f4,T⟩:=shT;refine lifted_of (C:=Tryz.checked) (ts:=[22]) (tb:=4) (fun t W v=>if t=22 then (∃ l,RecsAt ItC 7 (fun _=>False) W v l) else True) (by show Tryz.f3.params.toList=_;rw [Tryz.params3]) rfl (by kernel_rfl) Tryz.underlying4 laid_out ?_ ?_ own_none started (by kernel_rfl) Tryz.func3
    (ChangeSpec.witness6 (enc:=enc) (C:=Tryz.checked) false ⟨#[],#[.slice none 0 0],[]⟩ 8 (by kernel_rfl) (by kernel_rfl) (by kernel_rfl) (by kernel_rfl)) ?_ ?_
  · intro t ht;simp only [List.mem_cons,List.not_mem_nil,or_false] at ht;rcases ht with rfl <;> exact ⟨by kernel_rfl,of_decide_eq_true (by kernel_rfl)⟩
  · intro ds hd
    match ds,hd with
    | [a0],_=>rfl
  · intro t ht W base v d p hv h hw;simp only [List.mem_cons,List.not_mem_nil,or_false] at ht;rcases ht with ht
    · subst ht;(try dsimp only);rw [if_pos rfl];exact (by obtain ⟨q0,q1,q2,I⟩:=itT;exact its_arg Tryz.underlying22 (Nat.le_of_ble_eq_true (by kernel_rfl)) I T hv h hw)
  · intro w vs hs
    match vs,hs with
    | [v0],⟨p0,_⟩=>
    have q0:=p0
    (try dsimp only at q0)
    rw [if_pos rfl] at q0;obtain ⟨a0,ha0⟩:=q0;exact encodes_law _ a0 v0 w ha0
set_option maxHeartbeats 8000000 in
theorem ifaceEncodes_closed:joinedFacts Tryz.prog 3 Tryz.f3 Rows.ifaceEncodesSpec Rows.ifaceEncodesRow=true:=by
  simp only [joinedFacts,Bool.and_eq_true]
  and_intros <;> as_aux_lemma=>kernel_rfl
theorem ifaceEncodes_holds:Rows.IfaceEncodesSaid:=
  OpenClaim.holds_of_wide 3 Tryz.f3 rfl rfl rfl rfl rfl rfl rfl ⟨rfl,rfl,rfl,rfl,rfl⟩ rfl rfl rfl rfl rfl (by kernel_rfl) Tryz.func3 ifaceEncodes_closed
    (of_decide_eq_true (by kernel_rfl)) (by unfold Func.isWrapper;first | (rw [if_pos (by decide +kernel)];kernel_rfl) | (rw [if_neg (by decide +kernel)];exact ⟨rfl,rfl⟩))
    (fun os started H enc _=>ifaceEncodes_lifted os started H enc)
set_option maxRecDepth 100000 in
theorem ifaceShows_lifted (os:Os) (started:os.Started) (H:Type) (enc:TypeId × Value→H):
    ReturnsInHanded {} Tryz.checked os 5 .any (Rows.ifaceShowsSpec.pre6 enc Tryz.prog Tryz.f5 Rows.ifaceShowsRow.domain false) (Rows.ifaceShowsSpec.post enc Tryz.prog Tryz.f5 false true false false):=by
  obtain ⟨f0,f1,f2,f3,f4,T⟩:=shT;refine lifted_of (C:=Tryz.checked) (ts:=[22,9]) (tb:=4) (fun t W v=>if t=22 then (∃ l,RecsAt ItC 7 (fun _=>False) W v l) else if t=9 then (∃ s:Str,v=S s∧s.length≤9223372036854775807) else True) (by show Tryz.f5.params.toList=_;rw [Tryz.params5]) rfl (by kernel_rfl) Tryz.underlying4 laid_out ?_ ?_ own_none started (by kernel_rfl) Tryz.func5
    (ChangeSpec.witness6 (enc:=enc) (C:=Tryz.checked) false ⟨#[],#[.slice none 0 0,.string ⟨#[]⟩],[]⟩ 8 (by kernel_rfl) (by kernel_rfl) (by kernel_rfl) (by kernel_rfl)) ?_ ?_
  · intro t ht;simp only [List.mem_cons,List.not_mem_nil,or_false] at ht;rcases ht with rfl | rfl <;> exact ⟨by kernel_rfl,of_decide_eq_true (by kernel_rfl)⟩
  · intro ds hd
    match ds,hd with
    | [a0,a1],_=>rfl
  · intro t ht W base v d p hv h hw;simp only [List.mem_cons,List.not_mem_nil,or_false] at ht;rcases ht with ht | ht
    · subst ht;(try dsimp only);rw [if_pos rfl];exact (by obtain ⟨q0,q1,q2,I⟩:=itT;exact its_arg Tryz.underlying22 (Nat.le_of_ble_eq_true (by kernel_rfl)) I T hv h hw)
    · subst ht;(try dsimp only);rw [if_neg (by decide)];rw [if_pos rfl];exact str_argT Tryz.underlying9 hv h
  · intro w vs hs
    match vs,hs with
    | [v0,v1],⟨p0,p1,_⟩=>
    have q0:=p0
    (try dsimp only at q0)
    rw [if_pos rfl] at q0;obtain ⟨a0,ha0⟩:=q0;have q1:=p1
    (try dsimp only at q1)
    rw [if_neg (by decide)] at q1;rw [if_pos rfl] at q1;obtain ⟨a1,rfl,ha1⟩:=q1;exact shows_law _ a0 a1 v0 w ha0 ha1
set_option maxHeartbeats 8000000 in
theorem ifaceShows_closed:joinedFacts Tryz.prog 5 Tryz.f5 Rows.ifaceShowsSpec Rows.ifaceShowsRow=true:=by
  simp only [joinedFacts,Bool.and_eq_true]
  and_intros <;> as_aux_lemma=>kernel_rfl
theorem ifaceShows_holds:Rows.IfaceShowsSaid:=
  OpenClaim.holds_of_wide 5 Tryz.f5 rfl rfl rfl rfl rfl rfl rfl ⟨rfl,rfl,rfl,rfl,rfl⟩ rfl rfl rfl rfl rfl (by kernel_rfl) Tryz.func5 ifaceShows_closed
    (of_decide_eq_true (by kernel_rfl)) (by unfold Func.isWrapper;first | (rw [if_pos (by decide +kernel)];kernel_rfl) | (rw [if_neg (by decide +kernel)];exact ⟨rfl,rfl⟩))
    (fun os started H enc _=>ifaceShows_lifted os started H enc)
end Go.Proofs.YtcncoaabbedhfaaGreat
