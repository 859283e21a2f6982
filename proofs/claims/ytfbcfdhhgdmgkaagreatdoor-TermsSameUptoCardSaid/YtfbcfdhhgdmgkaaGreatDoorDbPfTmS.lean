/- The card of the law TermsSame, the second form. Conditions: none. -/
import Derived.Test.YtfbcfdhhgdmgkaaGreatDoorDbText
import Derived.Test.YtfbcfdhhgdmgkaaGreatDoorDbLawTmS
namespace Go.Proofs.YtfbcfdhhgdmgkaaGreatDoor
open Go.Gx Go.ChangeShapes Go.WideShapes Go.ChangeAt Go.RowKit
theorem termsSame_witness (os:Os) {H:Type} (enc:TypeId × Value→H):
    (Rows.OpenSpec.upto Rows.termsSameSpec).preRow enc Tryz.prog Tryz.f6 Rows.termsSameUptoRow.domain false Rows.termsSameUptoRow.laid ((laidWorld os).forCall (fun _ _=>0) ⟨#[],#[zeroTm,zeroTm,zeroTm],[]⟩).memory #[zeroTm,zeroTm,zeroTm]:=by
  have hw:(DataW.whole enc Tryz.prog ((laidWorld os).forCall (fun _ _=>0) ⟨#[],#[zeroTm,zeroTm,zeroTm],[]⟩).memory Tryz.f6.params.toList (Rows.OpenSpec.upto Rows.termsSameSpec).vars false #[zeroTm,zeroTm,zeroTm].toList 8).map (fun x=>(x.1,x.2.1))=
      some ([.agg [.lit (.int .i64 0),.lit (.string []),.lit (.string []),.lit (.int .i64 0),.nil,.nil,.nil,.nil,.lit (.int .i64 0)],.agg [.lit (.int .i64 0),.lit (.string []),.lit (.string []),.lit (.int .i64 0),.nil,.nil,.nil,.nil,.lit (.int .i64 0)],.agg [.lit (.int .i64 0),.lit (.string []),.lit (.string []),.lit (.int .i64 0),.nil,.nil,.nil,.nil,.lit (.int .i64 0)]],[]):=by kernel_rfl
  obtain ⟨⟨x1,x2,x3⟩,hx,hx1⟩:=Option.map_eq_some_iff.1 hw;simp only [Prod.mk.injEq] at hx1;obtain ⟨rfl,rfl⟩:=hx1;exact OpenSpec.preRow_of_cond 8 hx (by kernel_rfl) (fun k hk=>by cases hk;kernel_rfl) (by kernel_rfl) (laid_met3 os)
set_option maxRecDepth 100000 in
theorem termsSame_lifted (os:Os) (started:os.Started) (H:Type) (enc:TypeId × Value→H) (F:Stop.Interp):
    ReturnsInHanded {} Tryz.checked os 6 .any ((Rows.OpenSpec.upto Rows.termsSameSpec).preRow enc Tryz.prog Tryz.f6 Rows.termsSameUptoRow.domain false Rows.termsSameUptoRow.laid) (((Rows.OpenSpec.upto Rows.termsSameSpec).at F).post enc Tryz.prog Tryz.f6 false true false false):=by
  refine lifted_upto (C:=Tryz.checked) (s:=Rows.termsSameSpec) (ts:=[26,26,26]) (tb:=4) (fun t W v=>if t=26 then (∃ (cs:List Value) (s:Tm),v=.agg cs.toArray∧TmC (fun _=>False) W cs s∧s.allB limB=true∧s.allB limN=true) else True)
    (by show Tryz.f6.params.toList=_;kernel_rfl) rfl (by show Tryz.f6.resultTypes=_;kernel_rfl) Tryz.underlying4 laid_out ?_ ?_ own_none started (by kernel_rfl) Tryz.func6
    (witness_row_atRef (enc:=enc) (C:=Tryz.checked) false (laidWorld os) #[zeroTm,zeroTm,zeroTm] rfl (by kernel_rfl) (by kernel_rfl) (by kernel_rfl) (termsSame_witness os enc)) ?_ ?_
  · intro t ht;simp only [List.mem_cons,List.not_mem_nil,or_false,or_self] at ht;subst ht;exact ⟨by kernel_rfl,of_decide_eq_true (by kernel_rfl)⟩
  · intro ds hd
    match ds,hd with
    | [a0,a1,a2],_=>rfl
  · intro t ht W base v d p hq hv h hw;simp only [List.mem_cons,List.not_mem_nil,or_false,or_self] at ht;subst ht;(try dsimp only);rw [if_pos rfl];obtain ⟨f0,f1,f2,f3,f4,T⟩:=shT;obtain ⟨g0,g1,g2,g3,g4,g5,g6,g7,g8,G⟩:=tmT;exact tm_arg T G hq hv h hw
  · intro w vs hL hs
    match vs,hs with
    | [v0,v1,v2],⟨p0,p1,p2,_⟩=>
    have q0:=p0
    (try dsimp only at q0)
    rw [if_pos rfl] at q0;obtain ⟨ca,a,rfl,ha,Ma,Na⟩:=q0;have q1:=p1
    (try dsimp only at q1)
    rw [if_pos rfl] at q1;obtain ⟨cb,b,rfl,hb,Mb,Nb⟩:=q1;have q2:=p2
    (try dsimp only at q2)
    rw [if_pos rfl] at q2;obtain ⟨cc,c,rfl,hc,Mc,Nc⟩:=q2;exact Gx.same_law a b c ca cb cc w ha hb hc (tabs_of hL) Ma Mb Mc Na Nb
theorem termsSame_said:Rows.TermsSameUptoSaid:=
  OpenClaim.holds_of_cond 6 Tryz.f6 rfl rfl rfl rfl rfl rfl rfl ⟨rfl,rfl,rfl,rfl,rfl⟩ rfl rfl rfl rfl rfl (by kernel_rfl) Tryz.func6 (by kernel_rfl)
    (of_decide_eq_true (by kernel_rfl)) (by unfold Func.isWrapper;first | (rw [if_pos (by decide +kernel)];kernel_rfl) | (rw [if_neg (by decide +kernel)];exact ⟨rfl,rfl⟩))
    (fun os started H enc _ F=>by rw [OpenClaim.pre_eq_preRow];exact termsSame_lifted os started H enc F)
theorem termsSame_plain (f:FuncId) (fn:Func) (hf:Tryz.pinned.checked.prog.funcNamed "pandect/pandectlaw08.TermsSame" = some f) (hfn:Tryz.pinned.checked.prog.funcs[f]? = some fn):
    true=Tryz.pinned.checked.prog.looks []∧∀ (j:Nat) t,fn.params[j]? = some t→Tryz.pinned.checked.prog.wantsStandIn t=false:=by
  obtain rfl:f=6:=Option.some.inj ((show Tryz.prog.funcNamed "pandect/pandectlaw08.TermsSame" = some 6 by kernel_rfl).symm.trans hf) |>.symm
  obtain rfl:fn=Tryz.f6:=(Option.some.inj (Tryz.func6.symm.trans hfn)).symm;refine ⟨by kernel_rfl,fun j t ht=>?_⟩;rw [Tryz.params6] at ht;obtain rfl:t=26:=by simpa using Array.mem_of_getElem? ht
  exact (show Tryz.prog.wantsStandIn 26=false by kernel_rfl)
theorem termsSame_card:Rows.TermsSameUptoCardSaid:=
  Claim7.holds_tied_plain_at .later [] _ _ _ _ termsSame_said (fun _ h=>by cases h) (by kernel_rfl) (fun _ h=>by cases h) termsSameUpto_row_tie rfl ⟨rfl,rfl⟩ (by kernel_rfl) rfl termsSame_plain (by kernel_rfl)
end Go.Proofs.YtfbcfdhhgdmgkaaGreatDoor
