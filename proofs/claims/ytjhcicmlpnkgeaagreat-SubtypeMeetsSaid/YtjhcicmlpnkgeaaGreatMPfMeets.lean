/- The rows of the laws SubtypeMeets: every input, whatever its size. Conditions: none. -/
import Derived.Test.YtjhcicmlpnkgeaaGreatRows
import Derived.Test.YtjhcicmlpnkgeaaGreatMRep
import Derived.Test.YtjhcicmlpnkgeaaGreatMRSort3
namespace Go.Proofs.YtjhcicmlpnkgeaaGreat
open Go.Gx Go.ChangeShapes Go.WideShapes Go.ChangeAt Go.RowKit
theorem own_none:ownKnob Tryz.prog.godebug=none:=by kernel_rfl
theorem laid_out:laidOutB Tryz.prog=true:=by kernel_rfl
theorem shT:∃ f0 f1 f2 f3 f4,ShT Tryz.prog 25 9 f0 f1 f2 f3 f4:=
  ⟨_,_,_,_,_,{ hS:=Tryz.underlying25,h0:=Tryz.underlying3,h1:=Tryz.underlying9,h2:=Tryz.underlying9,h3:=Tryz.underlying22,hN:=Tryz.underlying9,h4:=Tryz.underlying23,o:=⟨rfl,rfl,rfl,rfl,rfl⟩,c:=⟨by kernel_rfl,by kernel_rfl,by kernel_rfl,by kernel_rfl,by kernel_rfl⟩,cS:=by kernel_rfl,cN:=by kernel_rfl,bS:=Nat.le_of_ble_eq_true (by kernel_rfl),bN:=Nat.le_of_ble_eq_true (by kernel_rfl) }⟩
set_option maxRecDepth 100000 in
theorem subtypeMeets_lifted (os:Os) (started:os.Started) (H:Type) (enc:TypeId × Value→H):
    ReturnsInHanded {} Tryz.checked os 4 .any (Rows.subtypeMeetsSpec.pre6 enc Tryz.prog Tryz.f4 Rows.subtypeMeetsRow.domain false) (Rows.subtypeMeetsSpec.post enc Tryz.prog Tryz.f4 false true false false):=by
  obtain ⟨f0,f1,f2,f3,f4,T⟩:=shT;refine lifted_shapes (C:=Tryz.checked) (n:=2) (tb:=4) T (by show Tryz.f4.params.toList=_;rw [Tryz.params4];rfl) rfl (by kernel_rfl) Tryz.underlying4 laid_out (by kernel_rfl) (of_decide_eq_true (by kernel_rfl)) ?_ own_none started (by kernel_rfl) Tryz.func4
    (ChangeSpec.witness6 (enc:=enc) (C:=Tryz.checked) false ⟨#[],#[.agg #[.int .i64 0,.string ⟨#[]⟩,.string ⟨#[]⟩,.slice none 0 0,.slice none 0 0],.agg #[.int .i64 0,.string ⟨#[]⟩,.string ⟨#[]⟩,.slice none 0 0,.slice none 0 0]],[]⟩ 8 (by kernel_rfl) (by kernel_rfl) (by kernel_rfl) (by kernel_rfl)) ?_
  · intro ds hd
    match ds,hd with
    | [x0,x1],_=>rfl
  · intro w l hl hs
    match l,hl with
    | [x0,x1],_=>exact law_meets _ _ x0.2 x1.2 x0.1 x1.1 w (hs x0 (by simp)) (hs x1 (by simp))
set_option maxHeartbeats 8000000 in
theorem subtypeMeets_closed:joinedFacts Tryz.prog 4 Tryz.f4 Rows.subtypeMeetsSpec Rows.subtypeMeetsRow=true:=by
  simp only [joinedFacts,Bool.and_eq_true]
  and_intros <;> as_aux_lemma=>kernel_rfl
theorem subtypeMeets_holds:Rows.SubtypeMeetsSaid:=
  OpenClaim.holds_of_wide 4 Tryz.f4 rfl rfl rfl rfl rfl rfl rfl ⟨rfl,rfl,rfl,rfl,rfl⟩ rfl rfl rfl rfl rfl (by kernel_rfl) Tryz.func4 subtypeMeets_closed
    (of_decide_eq_true (by kernel_rfl)) (by unfold Func.isWrapper;first | (rw [if_pos (by decide +kernel)];kernel_rfl) | (rw [if_neg (by decide +kernel)];exact ⟨rfl,rfl⟩))
    (fun os started H enc _=>subtypeMeets_lifted os started H enc)
end Go.Proofs.YtjhcicmlpnkgeaaGreat
