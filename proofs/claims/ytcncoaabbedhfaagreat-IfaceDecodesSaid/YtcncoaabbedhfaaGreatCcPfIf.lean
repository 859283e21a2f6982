/- The rows of the laws IfaceEncodes, IfaceDecodes, IfaceShows, IfaceBack, IfaceForms, IfaceTexts: every input, whatever its size. Conditions: none. -/
import Derived.Test.YtcncoaabbedhfaaGreatRows
import Derived.Test.YtcncoaabbedhfaaGreatCcOwn
import Derived.Test.YtcncoaabbedhfaaGreatCcDrawD
import Derived.Test.YtcncoaabbedhfaaGreatCcIfI
namespace Go.Proofs.YtcncoaabbedhfaaGreat
open Go.Gx Go.ChangeShapes Go.WideShapes Go.ChangeAt Go.RowKit
theorem own_none:ownKnob Tryz.prog.godebug=none:=by kernel_rfl
theorem laid_out:laidOutB Tryz.prog=true:=by kernel_rfl
theorem shT:∃ f0 f1 f2 f3 f4,ShT Tryz.prog 41 9 f0 f1 f2 f3 f4:=
  ⟨_,_,_,_,_,{ hS:=Tryz.underlying41,h0:=Tryz.underlying3,h1:=Tryz.underlying9,h2:=Tryz.underlying9,h3:=Tryz.underlying38,hN:=Tryz.underlying9,h4:=Tryz.underlying39,o:=⟨rfl,rfl,rfl,rfl,rfl⟩,c:=⟨by kernel_rfl,by kernel_rfl,by kernel_rfl,by kernel_rfl,by kernel_rfl⟩,cS:=by kernel_rfl,cN:=by kernel_rfl,bS:=Nat.le_of_ble_eq_true (by kernel_rfl),bN:=Nat.le_of_ble_eq_true (by kernel_rfl) }⟩
set_option maxRecDepth 100000 in
theorem ifaceDecodes_lifted (os:Os) (started:os.Started) (H:Type) (enc:TypeId × Value→H):
    ReturnsInHanded {} Tryz.checked os 4 .any (Rows.ifaceDecodesSpec.pre6 enc Tryz.prog Tryz.f4 Rows.ifaceDecodesRow.domain false) (Rows.ifaceDecodesSpec.post enc Tryz.prog Tryz.f4 false true false false):=by
  obtain ⟨f0,f1,f2,f3,f4,T⟩:=shT;refine lifted_of (C:=Tryz.checked) (ts:=[9]) (tb:=4) (fun t W v=>if t=9 then (∃ s:Str,v=S s∧s.length≤9223372036854775807) else True) (by show Tryz.f4.params.toList=_;rw [Tryz.params4]) rfl (by kernel_rfl) Tryz.underlying4 laid_out ?_ ?_ own_none started (by kernel_rfl) Tryz.func4
    (ChangeSpec.witness6 (enc:=enc) (C:=Tryz.checked) false ⟨#[],#[.string ⟨#[]⟩],[]⟩ 8 (by kernel_rfl) (by kernel_rfl) (by kernel_rfl) (by kernel_rfl)) ?_ ?_
  · intro t ht;simp only [List.mem_cons,List.not_mem_nil,or_false] at ht;rcases ht with rfl <;> exact ⟨by kernel_rfl,of_decide_eq_true (by kernel_rfl)⟩
  · intro ds hd
    match ds,hd with
    | [a0],_=>rfl
  · intro t ht W base v d p hv h hw;simp only [List.mem_cons,List.not_mem_nil,or_false] at ht;rcases ht with ht
    · subst ht;(try dsimp only);rw [if_pos rfl];exact str_argT Tryz.underlying9 hv h
  · intro w vs hs
    match vs,hs with
    | [v0],⟨p0,_⟩=>
    have q0:=p0
    (try dsimp only at q0)
    rw [if_pos rfl] at q0;obtain ⟨a0,rfl,ha0⟩:=q0;exact decodes_law a0 w ha0
set_option maxHeartbeats 8000000 in
theorem ifaceDecodes_closed:joinedFacts Tryz.prog 4 Tryz.f4 Rows.ifaceDecodesSpec Rows.ifaceDecodesRow=true:=by
  simp only [joinedFacts,Bool.and_eq_true]
  and_intros <;> as_aux_lemma=>kernel_rfl
theorem ifaceDecodes_holds:Rows.IfaceDecodesSaid:=
  OpenClaim.holds_of_wide 4 Tryz.f4 rfl rfl rfl rfl rfl rfl rfl ⟨rfl,rfl,rfl,rfl,rfl⟩ rfl rfl rfl rfl rfl (by kernel_rfl) Tryz.func4 ifaceDecodes_closed
    (of_decide_eq_true (by kernel_rfl)) (by unfold Func.isWrapper;first | (rw [if_pos (by decide +kernel)];kernel_rfl) | (rw [if_neg (by decide +kernel)];exact ⟨rfl,rfl⟩))
    (fun os started H enc _=>ifaceDecodes_lifted os started H enc)
end Go.Proofs.YtcncoaabbedhfaaGreat
