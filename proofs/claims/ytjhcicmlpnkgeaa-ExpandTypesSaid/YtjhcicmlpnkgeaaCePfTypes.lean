/- The rows of the laws ExpandTypes: every input, whatever its size. Conditions: none. -/
import Derived.Test.YtjhcicmlpnkgeaaRows
import Derived.Test.YtjhcicmlpnkgeaaCeOwn
import Derived.Test.YtjhcicmlpnkgeaaCeDrawD
import Derived.Test.YtjhcicmlpnkgeaaCeRefExp3
namespace Go.Proofs.Ytjhcicmlpnkgeaa
open Go.Gx Go.ChangeShapes Go.WideShapes Go.ChangeAt Go.RowKit
theorem own_none:ownKnob Try.prog.godebug=none:=by kernel_rfl
theorem laid_out:laidOutB Try.prog=true:=by kernel_rfl
theorem shT:∃ f0 f1 f2 f3 f4,ShT Try.prog 25 9 f0 f1 f2 f3 f4:=
  ⟨_,_,_,_,_,{ hS:=Try.underlying25,h0:=Try.underlying3,h1:=Try.underlying9,h2:=Try.underlying9,h3:=Try.underlying22,hN:=Try.underlying9,h4:=Try.underlying23,o:=⟨rfl,rfl,rfl,rfl,rfl⟩,c:=⟨by kernel_rfl,by kernel_rfl,by kernel_rfl,by kernel_rfl,by kernel_rfl⟩,cS:=by kernel_rfl,cN:=by kernel_rfl,bS:=Nat.le_of_ble_eq_true (by kernel_rfl),bN:=Nat.le_of_ble_eq_true (by kernel_rfl) }⟩
theorem bdT:∃ g0 g1 g2,BdT Try.prog 37 25 g0 g1 g2:=
  ⟨_,_,_,{ hB:=Try.underlying37,h0:=Try.underlying9,h1:=Try.underlying9,h2:=rfl,o:=⟨rfl,rfl,rfl⟩,c:=⟨by kernel_rfl,by kernel_rfl,by kernel_rfl,by kernel_rfl⟩ }⟩
theorem itT:∃ g0 g1 g2,ItT Try.prog 58 25 g0 g1 g2:=
  ⟨_,_,_,{ hB:=Try.underlying58,h0:=Try.underlying3,h1:=Try.underlying9,h2:=rfl,o:=⟨rfl,rfl,rfl⟩,c:=⟨by kernel_rfl,by kernel_rfl,by kernel_rfl,by kernel_rfl⟩ }⟩
set_option maxRecDepth 100000 in
theorem expandTypes_lifted (os:Os) (started:os.Started) (H:Type) (enc:TypeId × Value→H):
    ReturnsInHanded {} Try.checked os 8 .any (Rows.expandTypesSpec.pre6 enc Try.prog Try.f8 Rows.expandTypesRow.domain false) (Rows.expandTypesSpec.post enc Try.prog Try.f8 false true false false):=by
  obtain ⟨f0,f1,f2,f3,f4,T⟩:=shT;obtain ⟨g0,g1,g2,G⟩:=bdT;refine lifted_of (C:=Try.checked) (ts:=[9,56]) (tb:=4) (fun t W v=>if t=9 then (∃ s:Str,v=S s∧s.length≤9223372036854775807) else if t=56 then (∃ l,RecsAt ItC 7 (fun _=>False) W v l) else True) (by show Try.f8.params.toList=_;rw [Try.params8]) rfl (by kernel_rfl) Try.underlying4 laid_out ?_ ?_ own_none started (by kernel_rfl) Try.func8
    (ChangeSpec.witness6 (enc:=enc) (C:=Try.checked) false ⟨#[],#[.string ⟨#[]⟩,.slice none 0 0],[]⟩ 8 (by kernel_rfl) (by kernel_rfl) (by kernel_rfl) (by kernel_rfl)) ?_ ?_
  · intro t ht;simp only [List.mem_cons,List.not_mem_nil,or_false] at ht;rcases ht with rfl | rfl <;> exact ⟨by kernel_rfl,of_decide_eq_true (by kernel_rfl)⟩
  · intro ds hd
    match ds,hd with
    | [a0,a1],_=>rfl
  · intro t ht W base v d p hv h hw;simp only [List.mem_cons,List.not_mem_nil,or_false] at ht;rcases ht with ht | ht
    · subst ht;(try dsimp only);rw [if_pos rfl];exact str_arg Try.underlying9 hv h
    · subst ht;(try dsimp only);rw [if_neg (by decide)];rw [if_pos rfl];exact (by obtain ⟨q0,q1,q2,I⟩:=itT;exact its_arg Try.underlying56 (Nat.le_of_ble_eq_true (by kernel_rfl)) I T (Nat.le_of_ble_eq_true (by kernel_rfl)) hv h hw)
  · intro w vs hs
    match vs,hs with
    | [v0,v1],⟨p0,p1,_⟩=>
    have q0:=p0
    (try dsimp only at q0)
    rw [if_pos rfl] at q0;obtain ⟨a0,rfl,ha0⟩:=q0;have q1:=p1
    (try dsimp only at q1)
    rw [if_neg (by decide)] at q1;rw [if_pos rfl] at q1;obtain ⟨a1,ha1⟩:=q1;exact law_types _ a0 a1 v1 w ha0 ha1
set_option maxHeartbeats 8000000 in
theorem expandTypes_closed:joinedFacts Try.prog 8 Try.f8 Rows.expandTypesSpec Rows.expandTypesRow=true:=by
  simp only [joinedFacts,Bool.and_eq_true]
  and_intros <;> as_aux_lemma=>kernel_rfl
theorem expandTypes_holds:Rows.ExpandTypesSaid:=
  OpenClaim.holds_of_wide 8 Try.f8 rfl rfl rfl rfl rfl rfl rfl ⟨rfl,rfl,rfl,rfl,rfl⟩ rfl rfl rfl rfl rfl (by kernel_rfl) Try.func8 expandTypes_closed
    (of_decide_eq_true (by kernel_rfl)) (by unfold Func.isWrapper;first | (rw [if_pos (by decide +kernel)];kernel_rfl) | (rw [if_neg (by decide +kernel)];exact ⟨rfl,rfl⟩))
    (fun os started H enc _=>expandTypes_lifted os started H enc)
end Go.Proofs.Ytjhcicmlpnkgeaa
