/- The card of the law TermsDeep, the second form. Conditions: none. -/
import Derived.Test.YtfbcfdhhgdmgkaaGreatDoorDaText
import Derived.Test.YtfbcfdhhgdmgkaaGreatDoorDaTm14
namespace Go.Proofs.YtfbcfdhhgdmgkaaGreatDoor
open Go.Gx Go.ChangeShapes Go.WideShapes Go.ChangeAt Go.RowKit
theorem termsDeep_witness (os:Os) {H:Type} (enc:TypeId × Value→H):
    (Rows.OpenSpec.upto Rows.termsDeepSpec).preRow enc Tryz.prog Tryz.f7 Rows.termsDeepUptoRow.domain false Rows.termsDeepUptoRow.laid ((laidWorld os).forCall (fun _ _=>0) ⟨#[],#[zeroTm,.string ⟨#[]⟩],[]⟩).memory #[zeroTm,.string ⟨#[]⟩]:=by
  have hw:(DataW.whole enc Tryz.prog ((laidWorld os).forCall (fun _ _=>0) ⟨#[],#[zeroTm,.string ⟨#[]⟩],[]⟩).memory Tryz.f7.params.toList (Rows.OpenSpec.upto Rows.termsDeepSpec).vars false #[zeroTm,Value.string ⟨#[]⟩].toList 8).map (fun x=>(x.1,x.2.1))=
      some ([.agg [.lit (.int .i64 0),.lit (.string []),.lit (.string []),.lit (.int .i64 0),.nil,.nil,.nil,.nil,.lit (.int .i64 0)],.lit (.string [])],[]):=by kernel_rfl
  obtain ⟨⟨x1,x2,x3⟩,hx,hx1⟩:=Option.map_eq_some_iff.1 hw;simp only [Prod.mk.injEq] at hx1;obtain ⟨rfl,rfl⟩:=hx1;exact OpenSpec.preRow_of_cond 8 hx (by kernel_rfl) (fun k hk=>by cases hk;kernel_rfl) (by kernel_rfl) (laid_met2 os)
set_option maxRecDepth 100000 in
theorem termsDeep_lifted (os:Os) (started:os.Started) (H:Type) (enc:TypeId × Value→H) (F:Stop.Interp):
    ReturnsInHanded {} Tryz.checked os 7 .any ((Rows.OpenSpec.upto Rows.termsDeepSpec).preRow enc Tryz.prog Tryz.f7 Rows.termsDeepUptoRow.domain false Rows.termsDeepUptoRow.laid) (((Rows.OpenSpec.upto Rows.termsDeepSpec).at F).post enc Tryz.prog Tryz.f7 false true false false):=by
  refine lifted_upto (C:=Tryz.checked) (s:=Rows.termsDeepSpec) (ts:=[26,9]) (tb:=4) (fun t W v=>if t=26 then (∃ (cs:List Value) (s:Tm),v=.agg cs.toArray∧TmC (fun _=>False) W cs s∧s.allB limB=true∧s.allB limN=true) else if t=9 then (∃ s:Gx.Str,v=Gx.S s∧s.length≤1048576) else True)
    (by show Tryz.f7.params.toList=_;kernel_rfl) rfl (by show Tryz.f7.resultTypes=_;kernel_rfl) Tryz.underlying4 laid_out ?_ ?_ own_none started (by kernel_rfl) Tryz.func7
    (witness_row_atRef (enc:=enc) (C:=Tryz.checked) false (laidWorld os) #[zeroTm,.string ⟨#[]⟩] rfl (by kernel_rfl) (by kernel_rfl) (by kernel_rfl) (termsDeep_witness os enc)) ?_ ?_
  · intro t ht;simp only [List.mem_cons,List.not_mem_nil,or_false] at ht;rcases ht with rfl | rfl <;> exact ⟨by kernel_rfl,of_decide_eq_true (by kernel_rfl)⟩
  · intro ds hd
    match ds,hd with
    | [a0,a1],_=>rfl
  · intro t ht W base v d p hq hv h hw;simp only [List.mem_cons,List.not_mem_nil,or_false] at ht;rcases ht with ht | ht
    · subst ht;(try dsimp only);rw [if_pos rfl];obtain ⟨f0,f1,f2,f3,f4,T⟩:=shT;obtain ⟨g0,g1,g2,g3,g4,g5,g6,g7,g8,G⟩:=tmT;exact tm_arg T G hq hv h hw
    · subst ht;(try dsimp only);rw [if_neg (by decide),if_pos rfl];exact str_argB Tryz.underlying9 hq hv h
  · intro w vs hL hs
    match vs,hs with
    | [v0,v1],⟨p0,p1,_⟩=>
    have q0:=p0
    (try dsimp only at q0)
    rw [if_pos rfl] at q0;obtain ⟨cs,s,rfl,hs,hM,hN⟩:=q0;have q1:=p1
    (try dsimp only at q1)
    rw [if_neg (by decide)] at q1;rw [if_pos rfl] at q1;obtain ⟨nm,rfl,hn⟩:=q1;exact Gx.deep_law s cs nm w hs (by omega) (tabs_of hL) hM
theorem termsDeep_said:Rows.TermsDeepUptoSaid:=
  OpenClaim.holds_of_cond 7 Tryz.f7 rfl rfl rfl rfl rfl rfl rfl ⟨rfl,rfl,rfl,rfl,rfl⟩ rfl rfl rfl rfl rfl (by kernel_rfl) Tryz.func7 (by kernel_rfl)
    (of_decide_eq_true (by kernel_rfl)) (by unfold Func.isWrapper;first | (rw [if_pos (by decide +kernel)];kernel_rfl) | (rw [if_neg (by decide +kernel)];exact ⟨rfl,rfl⟩))
    (fun os started H enc _ F=>by rw [OpenClaim.pre_eq_preRow];exact termsDeep_lifted os started H enc F)
theorem termsDeep_plain (f:FuncId) (fn:Func) (hf:Tryz.pinned.checked.prog.funcNamed "pandect/pandectlaw08.TermsDeep" = some f) (hfn:Tryz.pinned.checked.prog.funcs[f]? = some fn):
    true=Tryz.pinned.checked.prog.looks []∧∀ (j:Nat) t,fn.params[j]? = some t→Tryz.pinned.checked.prog.wantsStandIn t=false:=by
  obtain rfl:f=7:=Option.some.inj ((show Tryz.prog.funcNamed "pandect/pandectlaw08.TermsDeep" = some 7 by kernel_rfl).symm.trans hf) |>.symm
  obtain rfl:fn=Tryz.f7:=(Option.some.inj (Tryz.func7.symm.trans hfn)).symm;refine ⟨by kernel_rfl,fun j t ht=>?_⟩;rw [Tryz.params7] at ht;have hm:=Array.mem_of_getElem? ht;simp at hm;rcases hm with rfl | rfl
  · exact (show Tryz.prog.wantsStandIn 26=false by kernel_rfl)
  · exact (show Tryz.prog.wantsStandIn 9=false by kernel_rfl)
theorem termsDeep_card:Rows.TermsDeepUptoCardSaid:=
  Claim7.holds_tied_plain_at .later [] _ _ _ _ termsDeep_said (fun _ h=>by cases h) (by kernel_rfl) (fun _ h=>by cases h) termsDeepUpto_row_tie rfl ⟨rfl,rfl⟩ (by kernel_rfl) rfl termsDeep_plain (by kernel_rfl)
end Go.Proofs.YtfbcfdhhgdmgkaaGreatDoor
