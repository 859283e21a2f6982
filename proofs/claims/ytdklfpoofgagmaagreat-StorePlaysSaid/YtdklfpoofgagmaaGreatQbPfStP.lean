/- The rows of the laws StorePlays: every input, whatever its size. Conditions: none. -/
import Derived.Test.YtdklfpoofgagmaaGreatRows
import Derived.Test.YtdklfpoofgagmaaGreatQbWal14
import Derived.Test.YtdklfpoofgagmaaGreatQbRowG
import Derived.Test.YtdklfpoofgagmaaGreatQbWal8
import Derived.Test.YtdklfpoofgagmaaGreatQbRl2
namespace Go.Proofs.YtdklfpoofgagmaaGreat
open Go.Gx Go.ChangeShapes Go.WideShapes Go.ChangeAt Go.RowKit
theorem own_none:ownKnob Tryz.prog.godebug=none:=by kernel_rfl
theorem laid_out:laidOutB Tryz.prog=true:=by kernel_rfl
theorem edT:∃ g0 g1 g2,EdT Tryz.prog 70 g0 g1 g2:=
  ⟨_,_,_,{ hB:=Tryz.underlying70,h0:=Tryz.underlying9,h1:=Tryz.underlying9,h2:=Tryz.underlying4,o:=⟨rfl,rfl,rfl⟩,c:=⟨by kernel_rfl,by kernel_rfl,by kernel_rfl,by kernel_rfl⟩ }⟩
theorem saT:∃ g0 g1 g2 g3 g4,SaT Tryz.prog 52 50 31 70 g0 g1 g2 g3 g4:=
  ⟨_,_,_,_,_,{ hB:=Tryz.underlying52,h0:=Tryz.underlying3,h1:=rfl,h2:=Tryz.underlying3,h3:=rfl,h4:=Tryz.underlying9,o:=⟨rfl,rfl,rfl,rfl,rfl⟩,c:=⟨by kernel_rfl,by kernel_rfl,by kernel_rfl,by kernel_rfl,by kernel_rfl,by kernel_rfl⟩ }⟩
theorem faT:∃ g0 g1 g2,FaT Tryz.prog 50 4 g0 g1 g2:=
  ⟨_,_,_,{ hB:=Tryz.underlying50,h0:=Tryz.underlying48,hb:=Tryz.underlying4,h1:=Tryz.underlying3,h2:=Tryz.underlying3,o:=⟨rfl,rfl,rfl⟩,c:=⟨by kernel_rfl,by kernel_rfl,by kernel_rfl,by kernel_rfl,by kernel_rfl,Nat.le_of_ble_eq_true (by kernel_rfl)⟩ }⟩
set_option maxRecDepth 100000 in
theorem storePlays_lifted (os:Os) (started:os.Started) (H:Type) (enc:TypeId × Value→H):
    ReturnsInHanded {} Tryz.checked os 4 .any (Rows.storePlaysSpec.pre6 enc Tryz.prog Tryz.f4 Rows.storePlaysRow.domain false) (Rows.storePlaysSpec.post enc Tryz.prog Tryz.f4 false true false false):=by
  refine lifted_of (C:=Tryz.checked) (ts:=[3,44]) (tb:=4) (fun t W v=>if t=3 then (∃ n:Int,v=.int .i64 n∧True) else if t=44 then (∃ l,RecsAt SaC 7 (fun _=>False) W v l) else True) (by show Tryz.f4.params.toList=_;rw [Tryz.params4]) rfl (by kernel_rfl) Tryz.underlying4 laid_out ?_ ?_ own_none started (by kernel_rfl) Tryz.func4
    (ChangeSpec.witness6 (enc:=enc) (C:=Tryz.checked) false ⟨#[],#[.int .i64 0,.slice none 0 0],[]⟩ 8 (by kernel_rfl) (by kernel_rfl) (by kernel_rfl) (by kernel_rfl)) ?_ ?_
  · intro t ht;simp only [List.mem_cons,List.not_mem_nil,or_false] at ht;rcases ht with rfl | rfl <;> exact ⟨by kernel_rfl,of_decide_eq_true (by kernel_rfl)⟩
  · intro ds hd
    match ds,hd with
    | [a0,a1],_=>rfl
  · intro t ht W base v d p hv h hw;simp only [List.mem_cons,List.not_mem_nil,or_false] at ht;rcases ht with ht | ht
    · subst ht;(try dsimp only);rw [if_pos rfl];exact int_arg Tryz.underlying3 hv h
    · subst ht;(try dsimp only);rw [if_neg (by decide)];rw [if_pos rfl];exact (by obtain ⟨q0,q1,q2,q3,q4,E⟩:=saT;obtain ⟨r0,r1,r2,A⟩:=faT;obtain ⟨s0,s1,s2,D⟩:=edT;exact sas_arg Tryz.underlying44 (Nat.le_of_ble_eq_true (by kernel_rfl)) E A Tryz.underlying31 (Nat.le_of_ble_eq_true (by kernel_rfl)) D hv h hw)
  · intro w vs hs
    match vs,hs with
    | [v0,v1],⟨p0,p1,_⟩=>
    have q0:=p0
    (try dsimp only at q0)
    rw [if_pos rfl] at q0;obtain ⟨a0,rfl,ha0⟩:=q0;have q1:=p1
    (try dsimp only at q1)
    rw [if_neg (by decide)] at q1;rw [if_pos rfl] at q1;obtain ⟨a1,ha1⟩:=q1;exact law_plays23 _ a0 a1 v1 w ha0 ha1
set_option maxHeartbeats 8000000 in
theorem storePlays_closed:joinedFacts Tryz.prog 4 Tryz.f4 Rows.storePlaysSpec Rows.storePlaysRow=true:=by
  simp only [joinedFacts,Bool.and_eq_true]
  and_intros <;> as_aux_lemma=>kernel_rfl
theorem storePlays_holds:Rows.StorePlaysSaid:=
  OpenClaim.holds_of_wide 4 Tryz.f4 rfl rfl rfl rfl rfl rfl rfl ⟨rfl,rfl,rfl,rfl,rfl⟩ rfl rfl rfl rfl rfl (by kernel_rfl) Tryz.func4 storePlays_closed
    (of_decide_eq_true (by kernel_rfl)) (by unfold Func.isWrapper;first | (rw [if_pos (by decide +kernel)];kernel_rfl) | (rw [if_neg (by decide +kernel)];exact ⟨rfl,rfl⟩))
    (fun os started H enc _=>storePlays_lifted os started H enc)
end Go.Proofs.YtdklfpoofgagmaaGreat
