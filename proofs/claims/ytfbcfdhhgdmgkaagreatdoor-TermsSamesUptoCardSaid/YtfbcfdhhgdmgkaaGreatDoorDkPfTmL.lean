/- The card of the law TermsSames, the second form. Conditions: none. -/
import Derived.Test.YtfbcfdhhgdmgkaaGreatDoorDkText
import Derived.Test.YtfbcfdhhgdmgkaaGreatDoorDkLawTmC
namespace Go.Proofs.YtfbcfdhhgdmgkaaGreatDoor
open Go.Gx Go.ChangeShapes Go.WideShapes Go.ChangeAt Go.RowKit
theorem tms_argB {H:Type} {enc:TypeId × Value→H} {P:Program} {w:World} {tL tT tS eN:TypeId} {f0 f1 f2 f3 f4 g0 g1 g2 g3 g4 g5 g6 g7 g8:Field} (hL:P.underlying tL=some (.slice tT)) (T:ShT P tS eN f0 f1 f2 f3 f4) (G:TmT P tT tS eN g0 g1 g2 g3 g4 g5 g6 g7 g8) {b:Nat} {v:Value} {d:DataW H} {p:List MemPlace}
    (hq:Rows.uptoBulk d≤1048576) (hv:Value.okWide P w .any b tL v) (h:DataW.Trod enc P w 0 (fun _=>true) true tL v d p) (hw:(d.weights P tL).all (· ≤ reachBytes)=true):
    ∃ l:List Tm,RecsAt TmC 9 (fun _=>False) w v l∧∀ y∈l,y.allB limB=true∧y.allB limN=true:=by
  obtain ⟨fuel,h⟩:=h;have hcells:v.cells.toList=[v]:=by
    unfold Value.okWide at hv;rw [hL] at hv;cases v <;> simp_all [Value.cells,Cell.okWide,Cell.ok]
  rw [hcells] at h;obtain ⟨l,h1,h2⟩:=recs_openB (Cc:=TmC) (Q:=fun y=>y.allB limB=true∧y.allB limN=true) hL G.cT (by decide) G.bT (fun fu _ cs x h hw=>tm_openB T G fu cs x h hw) h hw;exact ⟨l,h1,h2 hq⟩
theorem termsSames_witness (os:Os) {H:Type} (enc:TypeId × Value→H):
    (Rows.OpenSpec.upto Rows.termsSamesSpec).preRow enc Tryz.prog Tryz.f4 Rows.termsSamesUptoRow.domain false Rows.termsSamesUptoRow.laid ((laidWorld os).forCall (fun _ _=>0) ⟨#[],#[.slice none 0 0],[]⟩).memory #[.slice none 0 0]:=by
  have hw:(DataW.whole enc Tryz.prog ((laidWorld os).forCall (fun _ _=>0) ⟨#[],#[.slice none 0 0],[]⟩).memory Tryz.f4.params.toList (Rows.OpenSpec.upto Rows.termsSamesSpec).vars false #[.slice none 0 0].toList 8).map (fun x=>(x.1,x.2.1))=
      some ([.nil],[]):=by kernel_rfl
  obtain ⟨⟨x1,x2,x3⟩,hx,hx1⟩:=Option.map_eq_some_iff.1 hw;simp only [Prod.mk.injEq] at hx1;obtain ⟨rfl,rfl⟩:=hx1;exact OpenSpec.preRow_of_cond 8 hx (by kernel_rfl) (fun k hk=>by cases hk;kernel_rfl) (by kernel_rfl) (laid_metL os)
set_option maxRecDepth 100000 in
theorem termsSames_lifted (os:Os) (started:os.Started) (H:Type) (enc:TypeId × Value→H) (F:Stop.Interp):
    ReturnsInHanded {} Tryz.checked os 4 .any ((Rows.OpenSpec.upto Rows.termsSamesSpec).preRow enc Tryz.prog Tryz.f4 Rows.termsSamesUptoRow.domain false Rows.termsSamesUptoRow.laid) (((Rows.OpenSpec.upto Rows.termsSamesSpec).at F).post enc Tryz.prog Tryz.f4 false true false false):=by
  refine lifted_upto (C:=Tryz.checked) (s:=Rows.termsSamesSpec) (ts:=[24]) (tb:=4) (fun t W v=>if t=24 then (∃ (l:List Tm),RecsAt TmC 9 (fun _=>False) W v l∧∀ y∈l,y.allB limB=true∧y.allB limN=true) else True)
    (by show Tryz.f4.params.toList=_;kernel_rfl) rfl (by show Tryz.f4.resultTypes=_;kernel_rfl) Tryz.underlying4 laid_out ?_ ?_ own_none started (by kernel_rfl) Tryz.func4
    (witness_row_atRef (enc:=enc) (C:=Tryz.checked) false (laidWorld os) #[.slice none 0 0] rfl (by kernel_rfl) (by kernel_rfl) (by kernel_rfl) (termsSames_witness os enc)) ?_ ?_
  · intro t ht;simp only [List.mem_cons,List.not_mem_nil,or_false] at ht;subst ht;exact ⟨by kernel_rfl,of_decide_eq_true (by kernel_rfl)⟩
  · intro ds hd
    match ds,hd with
    | [a0],_=>rfl
  · intro t ht W base v d p hq hv h hw;simp only [List.mem_cons,List.not_mem_nil,or_false] at ht;subst ht;(try dsimp only);rw [if_pos rfl];obtain ⟨f0,f1,f2,f3,f4,T⟩:=shT;obtain ⟨g0,g1,g2,g3,g4,g5,g6,g7,g8,G⟩:=tmT;exact tms_argB Tryz.underlying24 T G hq hv h hw
  · intro w vs hL hs
    match vs,hs with
    | [v0],⟨p0,_⟩=>
    have q0:=p0
    (try dsimp only at q0)
    rw [if_pos rfl] at q0;obtain ⟨l,hl,hq⟩:=q0;exact Gx.sames_law l v0 w hl (tabs_of hL) (fun i hi=>(hq _ (by rw [List.getD_eq_getElem?_getD,List.getElem?_eq_getElem hi];exact List.getElem_mem hi)).1) (fun i hi=>(hq _ (by rw [List.getD_eq_getElem?_getD,List.getElem?_eq_getElem hi];exact List.getElem_mem hi)).2)
theorem termsSames_said:Rows.TermsSamesUptoSaid:=
  OpenClaim.holds_of_cond 4 Tryz.f4 rfl rfl rfl rfl rfl rfl rfl ⟨rfl,rfl,rfl,rfl,rfl⟩ rfl rfl rfl rfl rfl (by kernel_rfl) Tryz.func4 (by kernel_rfl)
    (of_decide_eq_true (by kernel_rfl)) (by unfold Func.isWrapper;first | (rw [if_pos (by decide +kernel)];kernel_rfl) | (rw [if_neg (by decide +kernel)];exact ⟨rfl,rfl⟩))
    (fun os started H enc _ F=>by rw [OpenClaim.pre_eq_preRow];exact termsSames_lifted os started H enc F)
theorem termsSames_plain (f:FuncId) (fn:Func) (hf:Tryz.pinned.checked.prog.funcNamed "pandect/pandectlaw08.TermsSames" = some f) (hfn:Tryz.pinned.checked.prog.funcs[f]? = some fn):
    true=Tryz.pinned.checked.prog.looks []∧∀ (j:Nat) t,fn.params[j]? = some t→Tryz.pinned.checked.prog.wantsStandIn t=false:=by
  obtain rfl:f=4:=Option.some.inj ((show Tryz.prog.funcNamed "pandect/pandectlaw08.TermsSames" = some 4 by kernel_rfl).symm.trans hf) |>.symm
  obtain rfl:fn=Tryz.f4:=(Option.some.inj (Tryz.func4.symm.trans hfn)).symm;refine ⟨by kernel_rfl,fun j t ht=>?_⟩;rw [Tryz.params4] at ht;obtain rfl:t=24:=by simpa using Array.mem_of_getElem? ht
  exact (show Tryz.prog.wantsStandIn 24=false by kernel_rfl)
theorem termsSames_card:Rows.TermsSamesUptoCardSaid:=
  Claim7.holds_tied_plain_at .later [] _ _ _ _ termsSames_said (fun _ h=>by cases h) (by kernel_rfl) (fun _ h=>by cases h) termsSamesUpto_row_tie rfl ⟨rfl,rfl⟩ (by kernel_rfl) rfl termsSames_plain (by kernel_rfl)
end Go.Proofs.YtfbcfdhhgdmgkaaGreatDoor
