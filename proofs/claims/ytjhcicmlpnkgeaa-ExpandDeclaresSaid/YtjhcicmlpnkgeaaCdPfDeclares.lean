/- The rows of the laws ExpandDeclares: every input, whatever its size. Conditions: none. -/
import Derived.Test.YtjhcicmlpnkgeaaRows
import Derived.Test.YtjhcicmlpnkgeaaCdRefExp2
import Derived.Test.YtjhcicmlpnkgeaaCdRcs
namespace Go.Proofs.Ytjhcicmlpnkgeaa
open Go.Gx Go.ChangeShapes Go.WideShapes Go.ChangeAt Go.RowKit
theorem own_none:ownKnob Try.prog.godebug=none:=by kernel_rfl
theorem laid_out:laidOutB Try.prog=true:=by kernel_rfl
theorem shT:∃ f0 f1 f2 f3 f4,ShT Try.prog 25 9 f0 f1 f2 f3 f4:=
  ⟨_,_,_,_,_,{ hS:=Try.underlying25,h0:=Try.underlying3,h1:=Try.underlying9,h2:=Try.underlying9,h3:=Try.underlying22,hN:=Try.underlying9,h4:=Try.underlying23,o:=⟨rfl,rfl,rfl,rfl,rfl⟩,c:=⟨by kernel_rfl,by kernel_rfl,by kernel_rfl,by kernel_rfl,by kernel_rfl⟩,cS:=by kernel_rfl,cN:=by kernel_rfl,bS:=Nat.le_of_ble_eq_true (by kernel_rfl),bN:=Nat.le_of_ble_eq_true (by kernel_rfl) }⟩
theorem bdT:∃ g0 g1 g2,BdT Try.prog 37 25 g0 g1 g2:=
  ⟨_,_,_,{ hB:=Try.underlying37,h0:=Try.underlying9,h1:=Try.underlying9,h2:=rfl,o:=⟨rfl,rfl,rfl⟩,c:=⟨by kernel_rfl,by kernel_rfl,by kernel_rfl,by kernel_rfl⟩ }⟩
theorem deT:∃ g0 g1 g2 g3 g4,DeT Try.prog 49 25 g0 g1 g2 g3 g4:=
  ⟨_,_,_,_,_,{ hB:=Try.underlying49,h0:=Try.underlying3,h1:=Try.underlying9,h2:=rfl,o:=⟨rfl,rfl,rfl⟩,c:=⟨by kernel_rfl,by kernel_rfl,by kernel_rfl,by kernel_rfl⟩ }⟩
set_option maxRecDepth 100000 in
theorem expandDeclares_lifted (os:Os) (started:os.Started) (H:Type) (enc:TypeId × Value→H):
    ReturnsInHanded {} Try.checked os 7 .any (Rows.expandDeclaresSpec.pre6 enc Try.prog Try.f7 Rows.expandDeclaresRow.domain false) (Rows.expandDeclaresSpec.post enc Try.prog Try.f7 false true false false):=by
  obtain ⟨f0,f1,f2,f3,f4,T⟩:=shT;obtain ⟨g0,g1,g2,G⟩:=bdT;refine lifted_of (C:=Try.checked) (ts:=[26,9,49]) (tb:=4) (fun t W v=>if t=26 then (∃ l,BdsAt (fun _=>False) W v l) else if t=9 then (∃ s:Str,v=S s∧s.length≤9223372036854775807) else if t=49 then (∃ cs b,v=.agg cs.toArray∧DeC (fun _=>False) W cs b) else True) (by show Try.f7.params.toList=_;rw [Try.params7]) rfl (by kernel_rfl) Try.underlying4 laid_out ?_ ?_ own_none started (by kernel_rfl) Try.func7
    (ChangeSpec.witness6 (enc:=enc) (C:=Try.checked) false ⟨#[],#[.slice none 0 0,.string ⟨#[]⟩,.agg #[.int .i64 0,.string ⟨#[]⟩,.int .i64 0,.string ⟨#[]⟩,.string ⟨#[]⟩,.slice none 0 0,.slice none 0 0,.int .i64 0,.string ⟨#[]⟩,.string ⟨#[]⟩,.int .i64 0,.slice none 0 0,.slice none 0 0,.slice none 0 0,.slice none 0 0,.int .i64 0,.int .i64 0]],[]⟩ 8 (by kernel_rfl) (by kernel_rfl) (by kernel_rfl) (by kernel_rfl)) ?_ ?_
  · intro t ht;simp only [List.mem_cons,List.not_mem_nil,or_false] at ht;rcases ht with rfl | rfl | rfl <;> exact ⟨by kernel_rfl,of_decide_eq_true (by kernel_rfl)⟩
  · intro ds hd
    match ds,hd with
    | [a0,a1,a2],_=>rfl
  · intro t ht W base v d p hv h hw;simp only [List.mem_cons,List.not_mem_nil,or_false] at ht;rcases ht with ht | ht | ht
    · subst ht;(try dsimp only);rw [if_pos rfl];exact bds_arg Try.underlying26 (Nat.le_of_ble_eq_true (by kernel_rfl)) G T hv h hw
    · subst ht;(try dsimp only);rw [if_neg (by decide)];rw [if_pos rfl];exact str_arg Try.underlying9 hv h
    · subst ht;(try dsimp only);rw [if_neg (by decide)];rw [if_neg (by decide)];rw [if_pos rfl];exact (by obtain ⟨q0,q1,q2,q3,q4,D⟩:=deT;exact de_arg D T hv h hw)
  · intro w vs hs
    match vs,hs with
    | [v0,v1,v2],⟨p0,p1,p2,_⟩=>
    have q0:=p0
    (try dsimp only at q0)
    rw [if_pos rfl] at q0;obtain ⟨a0,ha0⟩:=q0;have q1:=p1
    (try dsimp only at q1)
    rw [if_neg (by decide)] at q1;rw [if_pos rfl] at q1;obtain ⟨a1,rfl,ha1⟩:=q1;have q2:=p2
    (try dsimp only at q2)
    rw [if_neg (by decide)] at q2;rw [if_neg (by decide)] at q2;rw [if_pos rfl] at q2;obtain ⟨a2c,a2,rfl,ha2⟩:=q2;exact law_declares _ _ a0 a1 a2 v0 a2c w ha0 ha1 ha2
set_option maxHeartbeats 8000000 in
theorem expandDeclares_closed:joinedFacts Try.prog 7 Try.f7 Rows.expandDeclaresSpec Rows.expandDeclaresRow=true:=by
  simp only [joinedFacts,Bool.and_eq_true]
  and_intros <;> as_aux_lemma=>kernel_rfl
theorem expandDeclares_holds:Rows.ExpandDeclaresSaid:=
  OpenClaim.holds_of_wide 7 Try.f7 rfl rfl rfl rfl rfl rfl rfl ⟨rfl,rfl,rfl,rfl,rfl⟩ rfl rfl rfl rfl rfl (by kernel_rfl) Try.func7 expandDeclares_closed
    (of_decide_eq_true (by kernel_rfl)) (by unfold Func.isWrapper;first | (rw [if_pos (by decide +kernel)];kernel_rfl) | (rw [if_neg (by decide +kernel)];exact ⟨rfl,rfl⟩))
    (fun os started H enc _=>expandDeclares_lifted os started H enc)
end Go.Proofs.Ytjhcicmlpnkgeaa
