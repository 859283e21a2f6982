/- The document's equality of expressions, with places or without. Conditions: none. -/
import Derived.Test.YtfbcfdhhgdmgkaaGreatDoorDcTm14
import Derived.Test.YtfbcfdhhgdmgkaaGreatDoorDcTm9
import Derived.Test.YtfbcfdhhgdmgkaaGreatDoorDcTm7
namespace Go.Gx
open Go.Proofs
theorem ktme_ag26:aggT Tryz.prog 26 9=true:=by kernel_rfl
theorem ktme_ag45:aggT Tryz.prog 45 5=true:=by kernel_rfl
theorem ktme_en18:Go.Proofs.Enters Tryz.prog 18:=Go.Proofs.enters_of Tryz.func18 kr_ rfl
theorem ktme_en29:Go.Proofs.Enters Tryz.prog 29:=Go.Proofs.enters_of Tryz.func29 kr_ rfl
theorem ktme_en30:Go.Proofs.Enters Tryz.prog 30:=Go.Proofs.enters_of Tryz.func30 kr_ rfl
theorem ktme_fo26_0:fieldOff Tryz.prog 26 0=some 0:=by kernel_rfl
theorem ktme_fo26_1:fieldOff Tryz.prog 26 1=some 1:=by kernel_rfl
theorem ktme_fo26_2:fieldOff Tryz.prog 26 2=some 2:=by kernel_rfl
theorem ktme_fo26_3:fieldOff Tryz.prog 26 3=some 3:=by kernel_rfl
theorem ktme_fo26_4:fieldOff Tryz.prog 26 4=some 4:=by kernel_rfl
theorem ktme_fo26_5:fieldOff Tryz.prog 26 5=some 5:=by kernel_rfl
theorem ktme_fo26_6:fieldOff Tryz.prog 26 6=some 6:=by kernel_rfl
theorem ktme_fo26_7:fieldOff Tryz.prog 26 7=some 7:=by kernel_rfl
theorem ktme_fo26_8:fieldOff Tryz.prog 26 8=some 8:=by kernel_rfl
theorem ktme_mixed:Tryz.prog.follows .mixedOrders=true:=by kernel_rfl
theorem ktme_oc22:oneCellT Tryz.prog 22=true:=by kernel_rfl
theorem ktme_oc23:oneCellT Tryz.prog 23=true:=by kernel_rfl
theorem ktme_oc24:oneCellT Tryz.prog 24=true:=by kernel_rfl
theorem ktme_oc3:oneCellT Tryz.prog 3=true:=by kernel_rfl
theorem ktme_oc9:oneCellT Tryz.prog 9=true:=by kernel_rfl
theorem ktme_sz26:(Tryz.prog.info? 26).map (·.size)=some 9:=by kernel_rfl
theorem ktme_sz45:(Tryz.prog.info? 45).map (·.size)=some 5:=by kernel_rfl
theorem ktme_sz9:(Tryz.prog.info? 9).map (·.size)=some 1:=by kernel_rfl
theorem strings08 (A A':Nat→Prop) (v u:Value) (l m:List Str) (w:World) (hl:StrsAt A w v l) (hm:StrsAt A' w u m):
    Ret Tryz.prog 29 #[v,u] w fun r w'=>r=.bool (decide (l=m))∧Bel w w':=by
  have hl':=hl;obtain ⟨p,cap,rfl,-,-,l3,-⟩:=hl';have hm':=hm;obtain ⟨q,qap,rfl,-,-,m3,-⟩:=hm';refine ret_of_W Tryz.func29 rfl (Nat.le_of_ble_eq_true rfl) (res1 rfl) ?_;have hB:=Gr.refl (fun _=>False) w;refine W.seq (W.region (L.val (x_as (v:=.bool _) rfl) rfl ?_));refine L.nil (thn_n (W.seq (W.seq (W.region (L.val (x_mv (v:=.slice _ _ _) rfl) rfl ?_)))));refine L.val (x_len_slice Tryz.underlying22 rfl) rfl ?_;refine L.val (x_mv (v:=.slice _ _ _) rfl) rfl ?_;refine L.val (x_len_slice Tryz.underlying22 rfl) rfl ?_;refine L.val (x_neq rfl rfl) rfl ?_;refine L.nil (thn_n (W.cond (b:=_) rfl (fun g10=>?_) (fun g10=>?_)))
  ·have h10:=dne_t g10;refine W.seq (W.region (L.val (x_as (v:=.bool _) rfl) rfl ?_));refine L.nil (thn_n (W.ret (thn_r (fin_mk (.inr rfl) ?_))));exact ⟨vb (Eq.symm (decide_eq_false (by rintro rfl;simp at h10))),hB⟩
  ·have h10:=dne_f g10;have hlen:l.length=m.length:=by omega
   refine W.skip (thn_n (W.seq (W.seq (W.region (L.val (x_as (v:=.int _ _) rfl) rfl ?_)))));refine L.nil (thn_n (W.block (W.loop (fun m' E w'=>Bel w w'∧StrsAt A w' (.slice p l.length cap) l∧StrsAt A' w' (.slice q m.length qap) m∧∃ k,k≤l.length∧m'=l.length - k∧E 5=.int .i64 (k:Nat)∧E 0=.slice p l.length cap∧E 1=.slice q m.length qap∧l.take k=m.take k) (l.length) ?_ ?_)))
   ·exact ⟨hB,hl,hm,0,by omega,rfl,rfl,rfl,rfl,rfl⟩
   ·rintro m' E w0 ⟨hB,hl,hm,k,hk,rfl,e5',e2',e3',ht⟩;rw [upd_self e5',upd_self e2',upd_self e3'];refine W.seq (W.seq (W.region (L.val (x_mv (v:=.int _ _) rfl) rfl ?_)));refine L.val (x_mv (v:=.slice _ _ _) rfl) rfl ?_;refine L.val (x_len_slice Tryz.underlying22 rfl) rfl ?_;refine L.val (x_lss rfl rfl) rfl ?_;refine L.nil (thn_n (W.cond (b:=_) rfl (fun g14=>?_) (fun g14=>?_)))
    ·have h14:=of_decide_eq_true g14;have hlt:k<l.length:=by omega
     have hlt':k<m.length:=by omega
     obtain ⟨bb,o,rfl,hc⟩:=hl.elem hlt;obtain ⟨bb',o',rfl,hc'⟩:=hm.elem hlt';refine W.skip (thn_n (W.seq (W.block (W.seq (W.drawB ktme_mixed kr_ ?_)))));refine LQ.val (fun w hw=>x_mv (v:=.slice _ _ _) rfl) rfl ?_;refine LQ.val (fun w hw=>x_mv (v:=.int _ _) rfl) rfl ?_;refine LQ.val (fun w hw=>x_ia1  Tryz.underlying22 ktme_sz9 rfl rfl rfl om_) rfl ?_;refine LQ.val (fun w hw=>x_ld (v:=S _) ktme_oc9 rfl (hw.keep hc)) rfl ?_;refine LQ.val (fun w hw=>x_mv (v:=.slice _ _ _) rfl) rfl ?_;refine LQ.val (fun w hw=>x_mv (v:=.int _ _) rfl) rfl ?_;refine LQ.val (fun w hw=>x_ia1  Tryz.underlying22 ktme_sz9 rfl rfl rfl om_) rfl ?_;refine LQ.val (fun w hw=>x_ld (v:=S _) ktme_oc9 rfl (hw.keep hc')) rfl ?_;refine LQ.val (fun w hw=>x_nes rfl rfl) rfl ?_;refine LQ.nil ?_;intro w17 hw;have hB:=hB.carry hw;have hl:=hl.carry hw;have hm:=hm.carry hw;refine thn_n (W.cond (b:=_) rfl (fun g25=>?_) (fun g25=>?_))
     ·have h25:=sne_t g25;refine W.seq (W.region (L.val (x_as (v:=.bool _) rfl) rfl ?_));refine L.nil (thn_n (W.ret (blk_r (thn_r (thn_r (blk_r (thn_r (fin_mk (.inr rfl) ?_))))))));exact ⟨vb (Eq.symm (decide_eq_false (by rintro rfl;exact h25 rfl))),hB⟩
     ·have h25:=sne_f g25;refine W.skip (blk_n (thn_n (W.region (L.val (x_mv (v:=.int _ _) rfl) rfl ?_))));refine L.val (x_add rfl rfl (wr64 om_)) rfl ?_;refine L.val (x_as (v:=.int _ _) rfl) rfl ?_;refine L.nil (thn_n ⟨rfl,?_⟩);exact ⟨l.length - (k+1),by omega,hB,hl,hm,k+1,by omega,rfl,rfl,rfl,rfl,take_eq_snoc (d:=[]) hlt hlt' ht h25⟩
    ·have h14:=dlt_f g14;refine W.exit (thn_x (thn_x (blk_hit ?_)));refine thn_n (W.seq (W.region (L.val (x_as (v:=.bool _) rfl) rfl ?_)));refine L.nil (thn_n (W.ret (fin_mk (.inr rfl) ?_)));rw [List.take_of_length_le om_,List.take_of_length_le om_] at ht;exact ⟨vb (decide_eq_true ht).symm,hB⟩
def Tm.key (both:Bool) (t:Tm):Tm:=if both then t else t.bare
theorem key_iff {both:Bool} {a b:Tm}:a.key both=b.key both↔a.kind=b.kind∧a.of=b.of∧a.name=b.name∧a.n=b.n∧(both=true→a.place=b.place)∧a.names=b.names∧a.vars=b.vars∧a.shapes=b.shapes∧a.parts.map (Tm.key both)=b.parts.map (Tm.key both):=by
  cases both with
  | false=>
    show a.bare=b.bare↔_;rw [bare_iff];have e:Tm.key false=Tm.bare:=rfl;rw [e];constructor
    · rintro ⟨h1,h2,h3,h4,h5,h6,h7,h8⟩;exact ⟨h1,h2,h3,h4,(fun h=>by cases h),h5,h6,h7,h8⟩
    · rintro ⟨h1,h2,h3,h4,-,h5,h6,h7,h8⟩;exact ⟨h1,h2,h3,h4,h5,h6,h7,h8⟩
  | true=>
    have e:Tm.key true=id:=rfl;rw [e,List.map_id,List.map_id];constructor
    · intro h;have h:a=b:=h;subst h;exact ⟨rfl,rfl,rfl,rfl,fun _=>rfl,rfl,rfl,rfl,rfl⟩
    · rintro ⟨h1,h2,h3,h4,h0,h5,h6,h7,h8⟩;have h9:=h0 rfl;show a=b;cases a;cases b;simp only [Tm.kind,Tm.of,Tm.name,Tm.n,Tm.names,Tm.vars,Tm.shapes,Tm.parts,Tm.place] at h1 h2 h3 h4 h5 h6 h7 h8 h9;rw [h1,h2,h3,h4,h5,h6,h7,h8,h9]
open Classical in
noncomputable def eqW (both:Bool) (a b:Tm):Bool:=decide (a.key both=b.key both)
theorem eqW_t {both:Bool} {a b:Tm} (h:a.key both=b.key both):eqW both a b=true:=by unfold eqW;simpa using h
theorem eqW_f {both:Bool} {a b:Tm} (h:a.key both≠b.key both):eqW both a b=false:=by unfold eqW;simpa using h
theorem eqW_iff {both:Bool} {a b:Tm}:eqW both a b=true↔a.key both=b.key both:=by unfold eqW;simp
theorem key_getD {both:Bool} {l:List Tm} {k:Nat} (h:k<l.length):(l.map (Tm.key both)).getD k ((default:Tm).key both)=(l.getD k default).key both:=by
  rw [List.getD_eq_getElem?_getD,List.getD_eq_getElem?_getD,List.getElem?_map,List.getElem?_eq_getElem h];rfl
set_option maxHeartbeats 4000000 in
theorem equal08 (both:Bool):∀ (N:Nat) (a b:Tm),SizeOf.sizeOf a<N→∀ (A A':Nat→Prop) (cs ds:List Value) (w:World),TmC A w cs a→TmC A' w ds b→
    Ret Tryz.prog 18 #[.agg cs.toArray,.agg ds.toArray,.bool both] w fun v w'=>v=.bool (eqW both a b)∧Bel w w':=by
  intro N;induction N with
  | zero=>intro a b h;omega
  | succ N ih=>
    intro a b hN A A' cs ds w ha hb;have hla:=ha.len;have hlb:=hb.len;obtain ⟨vn,vv,vh,vp,rfl,hna,hva,hsa,hpa,-⟩:=ha.inv;obtain ⟨un,uv,uh,up,rfl,hnb,hvb,hsb,hpb,-⟩:=hb.inv;obtain ⟨pn,pnc,rfl,-⟩:=id hna;obtain ⟨qn,qnc,rfl,-⟩:=id hnb;obtain ⟨pv,pvc,rfl,-⟩:=id hva;obtain ⟨qv,qvc,rfl,-⟩:=id hvb;obtain ⟨ph,phc,rowh,rfl,-,-,ph3,hrh⟩:=id hsa;obtain ⟨qh,qhc,roxh,rfl,-,-,qh3,hxh⟩:=id hsb;obtain ⟨p,cap,row,rfl,-,-,p3,hr⟩:=id hpa;obtain ⟨q,qap,rox,rfl,-,-,q3,hx⟩:=id hpb;refine ret_of_W Tryz.func18 rfl (Nat.le_of_ble_eq_true rfl) (res1 rfl) ?_;have hB:=Gr.refl (fun _=>False) w;refine W.seq (W.region (L.box (cs:=_) rfl rfl (fun w3 bx3 hw hz3=>?_)));have hB:=hB.carry hw;have hna:=hna.carry hw;have hnb:=hnb.carry hw;have hva:=hva.carry hw;have hvb:=hvb.carry hw;have hrh:=hrh.carry hw;have hxh:=hxh.carry hw;have hr:=hr.carry hw;have hx:=hx.carry hw;refine L.box (cs:=_) rfl rfl (fun w4 bx4 hw hz4=>?_);have hB:=hB.carry hw;have hna:=hna.carry hw;have hnb:=hnb.carry hw;have hva:=hva.carry hw;have hvb:=hvb.carry hw;have hrh:=hrh.carry hw;have hxh:=hxh.carry hw;have hr:=hr.carry hw;have hx:=hx.carry hw;have bx3:=bx3.carry hw;refine L.val (x_as (v:=.bool _) rfl) rfl ?_;refine L.nil (thn_n (W.seq (W.seq (W.region (L.val (x_fa ktme_fo26_0 rfl) rfl ?_)))));refine L.val (x_ld (v:=.int _ _) ktme_oc3 rfl (bx3.cell0 rfl)) rfl ?_;refine L.val (x_fa ktme_fo26_0 rfl) rfl ?_;refine L.val (x_ld (v:=.int _ _) ktme_oc3 rfl (bx4.cell0 rfl)) rfl ?_;refine L.val (x_neq rfl rfl) rfl ?_;refine L.val (x_mv (v:=.bool _) rfl) rfl ?_;refine' L.group0 5 15 19 19 14 false rfl ?_ ?_ ?_;rotate_left 1
    ·intro g14;have h14:=dne_f g14;refine L.gyes' (dj:=14) (b:=_) rfl rfl g14 ?_;refine L.val (x_fa ktme_fo26_1 rfl) rfl ?_;refine L.gyes' (dj:=14) (b:=_) rfl rfl g14 ?_;refine L.val (x_ld (v:=S _) ktme_oc9 rfl (bx3.cell0 rfl)) rfl ?_;refine L.gyes' (dj:=14) (b:=_) rfl rfl g14 ?_;refine L.val (x_fa ktme_fo26_1 rfl) rfl ?_;refine L.gyes' (dj:=14) (b:=_) rfl rfl g14 ?_;refine L.val (x_ld (v:=S _) ktme_oc9 rfl (bx4.cell0 rfl)) rfl ?_;refine L.gyes' (dj:=14) (b:=_) rfl rfl g14 ?_;refine L.val (x_nes rfl rfl) rfl ?_;refine L.nil (thn_n ⟨rfl,rfl,?_,rfl⟩);repeat (first | exact jeq.refl _ _ _ | refine jeq.upd rfl ?_ | refine jeq.jk rfl rfl ?_)
    ·intro g14;(iterate 5 refine L.gno (dj:=14) (b:=_) rfl rfl g14 rfl ?_);refine L.nil (thn_n ⟨rfl,rfl,?_⟩);repeat (first | exact jeq.refl _ _ _ | refine jeq.upd rfl ?_ | refine jeq.jk rfl rfl ?_)
    intro J14 j14;refine L.val (x_or rfl j14) rfl ?_;refine L.val (x_mv (v:=.bool _) rfl) rfl ?_;refine' L.group0 5 22 26 26 21 false rfl ?_ ?_ ?_;rotate_left 1
    ·intro g21;have h21:=g21;refine L.gyes' (dj:=21) (b:=_) rfl rfl g21 ?_;refine L.val (x_fa ktme_fo26_2 rfl) rfl ?_;refine L.gyes' (dj:=21) (b:=_) rfl rfl g21 ?_;refine L.val (x_ld (v:=S _) ktme_oc9 rfl (bx3.cell0 rfl)) rfl ?_;refine L.gyes' (dj:=21) (b:=_) rfl rfl g21 ?_;refine L.val (x_fa ktme_fo26_2 rfl) rfl ?_;refine L.gyes' (dj:=21) (b:=_) rfl rfl g21 ?_;refine L.val (x_ld (v:=S _) ktme_oc9 rfl (bx4.cell0 rfl)) rfl ?_;refine L.gyes' (dj:=21) (b:=_) rfl rfl g21 ?_;refine L.val (x_nes rfl rfl) rfl ?_;refine L.nil (thn_n ⟨rfl,rfl,?_,rfl⟩);repeat (first | exact jeq.refl _ _ _ | refine jeq.upd rfl ?_ | refine jeq.jk rfl rfl ?_)
    ·intro g21;(iterate 5 refine L.gno (dj:=21) (b:=_) rfl rfl g21 rfl ?_);refine L.nil (thn_n ⟨rfl,rfl,?_⟩);repeat (first | exact jeq.refl _ _ _ | refine jeq.upd rfl ?_ | refine jeq.jk rfl rfl ?_)
    intro J21 j21;refine L.val (x_or rfl j21) rfl ?_;refine L.val (x_mv (v:=.bool _) rfl) rfl ?_;refine' L.group0 5 29 33 33 28 false rfl ?_ ?_ ?_;rotate_left 1
    ·intro g28;have h28:=g28;refine L.gyes' (dj:=28) (b:=_) rfl rfl g28 ?_;refine L.val (x_fa ktme_fo26_3 rfl) rfl ?_;refine L.gyes' (dj:=28) (b:=_) rfl rfl g28 ?_;refine L.val (x_ld (v:=.int _ _) ktme_oc3 rfl (bx3.cell0 rfl)) rfl ?_;refine L.gyes' (dj:=28) (b:=_) rfl rfl g28 ?_;refine L.val (x_fa ktme_fo26_3 rfl) rfl ?_;refine L.gyes' (dj:=28) (b:=_) rfl rfl g28 ?_;refine L.val (x_ld (v:=.int _ _) ktme_oc3 rfl (bx4.cell0 rfl)) rfl ?_;refine L.gyes' (dj:=28) (b:=_) rfl rfl g28 ?_;refine L.val (x_neq rfl rfl) rfl ?_;refine L.nil (thn_n ⟨rfl,rfl,?_,rfl⟩);repeat (first | exact jeq.refl _ _ _ | refine jeq.upd rfl ?_ | refine jeq.jk rfl rfl ?_)
    ·intro g28;(iterate 5 refine L.gno (dj:=28) (b:=_) rfl rfl g28 rfl ?_);refine L.nil (thn_n ⟨rfl,rfl,?_⟩);repeat (first | exact jeq.refl _ _ _ | refine jeq.upd rfl ?_ | refine jeq.jk rfl rfl ?_)
    intro J28 j28;refine L.val (x_or rfl j28) rfl ?_;refine L.val (x_mv (v:=.bool _) rfl) rfl ?_;refine' L.group0 8 36 43 43 35 false rfl ?_ ?_ ?_;rotate_left 1
    ·intro g35;have h35:=g35;refine L.gyes' (dj:=35) (b:=_) rfl rfl g35 ?_;refine L.val (x_mv (v:=.bool _) rfl) rfl ?_;refine L.gyes' (dj:=35) (b:=_) rfl rfl g35 ?_;refine L.val (x_mv (v:=.bool _) rfl) rfl ?_;refine' L.group0 5 38 42 42 37 true rfl ?_ ?_ ?_;rotate_left 1
     ·intro g37;have h37:=g37;refine L.gyes' (dj:=37) (b:=_) rfl rfl g37 ?_;refine L.val (x_fa ktme_fo26_8 rfl) rfl ?_;refine L.gyes' (dj:=37) (b:=_) rfl rfl g37 ?_;refine L.val (x_ld (v:=.int _ _) ktme_oc3 rfl (bx3.cell0 rfl)) rfl ?_;refine L.gyes' (dj:=37) (b:=_) rfl rfl g37 ?_;refine L.val (x_fa ktme_fo26_8 rfl) rfl ?_;refine L.gyes' (dj:=37) (b:=_) rfl rfl g37 ?_;refine L.val (x_ld (v:=.int _ _) ktme_oc3 rfl (bx4.cell0 rfl)) rfl ?_;refine L.gyes' (dj:=37) (b:=_) rfl rfl g37 ?_;refine L.val (x_neq rfl rfl) rfl ?_;refine L.nil (thn_n ⟨rfl,rfl,?_,rfl⟩);repeat (first | exact jeq.refl _ _ _ | refine jeq.upd rfl ?_ | refine jeq.jk rfl rfl ?_)
     ·intro g37;(iterate 5 refine L.gno (dj:=37) (b:=_) rfl rfl g37 rfl ?_);refine L.nil (thn_n ⟨rfl,rfl,?_⟩);repeat (first | exact jeq.refl _ _ _ | refine jeq.upd rfl ?_ | refine jeq.jk rfl rfl ?_)
     intro J37 j37;refine L.gyes' (dj:=35) (b:=_) rfl rfl g35 ?_;refine L.val (x_and rfl j37) rfl ?_;refine L.nil (thn_n ⟨rfl,rfl,?_,rfl⟩);repeat (first | exact jeq.refl _ _ _ | refine jeq.upd rfl ?_ | refine jeq.jk rfl rfl ?_)
    ·intro g35;refine L.gno (dj:=35) (b:=_) rfl rfl g35 rfl ?_;refine L.gno (dj:=35) (b:=_) rfl rfl g35 rfl ?_;(iterate 5 refine L.gun (dj:=37) rfl rfl rfl ?_);refine L.gno (dj:=35) (b:=_) rfl rfl g35 rfl ?_;refine L.nil (thn_n ⟨rfl,rfl,?_⟩);repeat (first | exact jeq.refl _ _ _ | refine jeq.upd rfl ?_ | refine jeq.jk rfl rfl ?_)
    intro J35 j35;refine L.val (x_or rfl j35) rfl ?_;refine L.nil (thn_n (W.cond (b:=_) rfl (fun g44=>?_) (fun g44=>?_)))
    ·have h44:=g44;refine W.seq (W.region (L.val (x_as (v:=.bool _) rfl) rfl ?_));refine L.nil (thn_n (W.ret (thn_r (fin_mk (.inr rfl) ?_))));exact ⟨vb (Eq.symm (eqW_f (by
       intro e;obtain ⟨e1,e2,e3,e4,e0,-⟩:=key_iff.1 e;rw [e1,e2,e3,e4] at h44;cases both with
       | false=>simp at h44
       | true=>rw [e0 rfl] at h44;simp at h44))),hB⟩
    ·have h44:=g44;have hkey:a.kind=b.kind∧a.of=b.of∧a.name=b.name∧a.n=b.n∧(both=true→a.place=b.place):=by
       simp at h44;obtain ⟨⟨⟨⟨e1,e2⟩,e3⟩,e4⟩,e5⟩:=h44;exact ⟨e1,e2,e3,e4,e5⟩
     refine W.skip (thn_n (W.seq (W.seq (W.region (L.val (x_fa ktme_fo26_4 rfl) rfl ?_)))));refine L.val (x_ld (v:=.slice _ _ _) ktme_oc22 rfl (bx3.cell0 rfl)) rfl ?_;refine L.val (x_fa ktme_fo26_4 rfl) rfl ?_;refine L.val (x_ld (v:=.slice _ _ _) ktme_oc22 rfl (bx4.cell0 rfl)) rfl ?_;refine L.ret (x_call ktme_en29 rfl) rfl (strings08 A A' _ _ _ _ _ hna hnb) ?_;rintro _ w49 ⟨rfl,hw⟩;have hB:=hB.carry hw;have hna:=hna.carry hw;have hnb:=hnb.carry hw;have hva:=hva.carry hw;have hvb:=hvb.carry hw;have hrh:=hrh.carry hw;have hxh:=hxh.carry hw;have hr:=hr.carry hw;have hx:=hx.carry hw;have bx3:=bx3.carry hw;have bx4:=bx4.carry hw;refine L.val (x_not rfl) rfl ?_;refine L.val (x_mv (v:=.bool _) rfl) rfl ?_;refine' L.group 6 52 57 57 51 false rfl ?_ ?_ ?_;rotate_left 1
     ·intro g51 hg51;have h51:=(not_f g51);refine L.gyes' (dj:=51) (b:=_) rfl rfl g51 ?_;refine L.val (x_fa ktme_fo26_5 rfl) rfl ?_;refine L.gyes' (dj:=51) (b:=_) rfl rfl g51 ?_;refine L.val (x_ld (v:=.slice _ _ _) ktme_oc22 rfl (bx3.cell0 rfl)) rfl ?_;refine L.gyes' (dj:=51) (b:=_) rfl rfl g51 ?_;refine L.val (x_fa ktme_fo26_5 rfl) rfl ?_;refine L.gyes' (dj:=51) (b:=_) rfl rfl g51 ?_;refine L.val (x_ld (v:=.slice _ _ _) ktme_oc22 rfl (bx4.cell0 rfl)) rfl ?_;refine L.gyes' (dj:=51) (b:=_) rfl rfl g51 ?_;refine L.ret (x_call ktme_en29 rfl) rfl (strings08 A A' _ _ _ _ _ hva hvb) ?_;rintro _ w56 ⟨rfl,hw⟩;have hB:=hB.carry hw;have hna:=hna.carry hw;have hnb:=hnb.carry hw;have hva:=hva.carry hw;have hvb:=hvb.carry hw;have hrh:=hrh.carry hw;have hxh:=hxh.carry hw;have hr:=hr.carry hw;have hx:=hx.carry hw;have bx3:=bx3.carry hw;have bx4:=bx4.carry hw;have hg51:=hg51.carry hw;refine L.gyes' (dj:=51) (b:=_) rfl rfl g51 ?_;refine L.val (x_not rfl) rfl ?_;refine L.nil (thn_n ⟨rfl,?_,?_,fun _=>rfl⟩)
      ·exact hg51
      ·repeat (first | exact jeq.refl _ _ _ | refine jeq.upd rfl ?_ | refine jeq.jk rfl rfl ?_)
     ·intro g51;(iterate 6 refine L.gno (dj:=51) (b:=_) rfl rfl g51 rfl ?_);refine L.nil (thn_n ⟨rfl,Gr.refl _ _,?_⟩);refine ⟨?_,fun h=>h.elim⟩;repeat (first | exact jeq.refl _ _ _ | refine jeq.upd rfl ?_ | refine jeq.jk rfl rfl ?_)
     intro J51 w51 hw j51;have hB:=hB.carry hw;have hna:=hna.carry hw;have hnb:=hnb.carry hw;have hva:=hva.carry hw;have hvb:=hvb.carry hw;have hrh:=hrh.carry hw;have hxh:=hxh.carry hw;have hr:=hr.carry hw;have hx:=hx.carry hw;have bx3:=bx3.carry hw;have bx4:=bx4.carry hw;refine L.val (x_or rfl j51) rfl ?_;refine L.val (x_mv (v:=.bool _) rfl) rfl ?_;refine' L.group0 7 60 66 66 59 false rfl ?_ ?_ ?_;rotate_left 1
     ·intro g59;have h59:=g59;refine L.gyes' (dj:=59) (b:=_) rfl rfl g59 ?_;refine L.val (x_fa ktme_fo26_6 rfl) rfl ?_;refine L.gyes' (dj:=59) (b:=_) rfl rfl g59 ?_;refine L.val (x_ld (v:=.slice _ _ _) ktme_oc23 rfl (bx3.cell0 rfl)) rfl ?_;refine L.gyes' (dj:=59) (b:=_) rfl rfl g59 ?_;refine L.val (x_len_slice Tryz.underlying23 rfl) rfl ?_;refine L.gyes' (dj:=59) (b:=_) rfl rfl g59 ?_;refine L.val (x_fa ktme_fo26_6 rfl) rfl ?_;refine L.gyes' (dj:=59) (b:=_) rfl rfl g59 ?_;refine L.val (x_ld (v:=.slice _ _ _) ktme_oc23 rfl (bx4.cell0 rfl)) rfl ?_;refine L.gyes' (dj:=59) (b:=_) rfl rfl g59 ?_;refine L.val (x_len_slice Tryz.underlying23 rfl) rfl ?_;refine L.gyes' (dj:=59) (b:=_) rfl rfl g59 ?_;refine L.val (x_neq rfl rfl) rfl ?_;refine L.nil (thn_n ⟨rfl,rfl,?_,rfl⟩);repeat (first | exact jeq.refl _ _ _ | refine jeq.upd rfl ?_ | refine jeq.jk rfl rfl ?_)
     ·intro g59;(iterate 7 refine L.gno (dj:=59) (b:=_) rfl rfl g59 rfl ?_);refine L.nil (thn_n ⟨rfl,rfl,?_⟩);repeat (first | exact jeq.refl _ _ _ | refine jeq.upd rfl ?_ | refine jeq.jk rfl rfl ?_)
     intro J59 j59;refine L.val (x_or rfl j59) rfl ?_;refine L.val (x_mv (v:=.bool _) rfl) rfl ?_;refine' L.group0 7 69 75 75 68 false rfl ?_ ?_ ?_;rotate_left 1
     ·intro g68;have h68:=g68;refine L.gyes' (dj:=68) (b:=_) rfl rfl g68 ?_;refine L.val (x_fa ktme_fo26_7 rfl) rfl ?_;refine L.gyes' (dj:=68) (b:=_) rfl rfl g68 ?_;refine L.val (x_ld (v:=.slice _ _ _) ktme_oc24 rfl (bx3.cell0 rfl)) rfl ?_;refine L.gyes' (dj:=68) (b:=_) rfl rfl g68 ?_;refine L.val (x_len_slice Tryz.underlying24 rfl) rfl ?_;refine L.gyes' (dj:=68) (b:=_) rfl rfl g68 ?_;refine L.val (x_fa ktme_fo26_7 rfl) rfl ?_;refine L.gyes' (dj:=68) (b:=_) rfl rfl g68 ?_;refine L.val (x_ld (v:=.slice _ _ _) ktme_oc24 rfl (bx4.cell0 rfl)) rfl ?_;refine L.gyes' (dj:=68) (b:=_) rfl rfl g68 ?_;refine L.val (x_len_slice Tryz.underlying24 rfl) rfl ?_;refine L.gyes' (dj:=68) (b:=_) rfl rfl g68 ?_;refine L.val (x_neq rfl rfl) rfl ?_;refine L.nil (thn_n ⟨rfl,rfl,?_,rfl⟩);repeat (first | exact jeq.refl _ _ _ | refine jeq.upd rfl ?_ | refine jeq.jk rfl rfl ?_)
     ·intro g68;(iterate 7 refine L.gno (dj:=68) (b:=_) rfl rfl g68 rfl ?_);refine L.nil (thn_n ⟨rfl,rfl,?_⟩);repeat (first | exact jeq.refl _ _ _ | refine jeq.upd rfl ?_ | refine jeq.jk rfl rfl ?_)
     intro J68 j68;refine L.val (x_or rfl j68) rfl ?_;refine L.nil (thn_n (W.cond (b:=_) rfl (fun g76=>?_) (fun g76=>?_)))
     ·have h76:=g76;refine W.seq (W.region (L.val (x_as (v:=.bool _) rfl) rfl ?_));refine L.nil (thn_n (W.ret (thn_r (fin_mk (.inr rfl) ?_))));exact ⟨vb (Eq.symm (eqW_f (by
        intro e;obtain ⟨-,-,-,-,-,e5,e6,e7,e8⟩:=key_iff.1 e;have e9:=congrArg List.length e8;simp only [List.length_map] at e9;rw [e5,e6,e7,e9] at h76;simp at h76))),hB⟩
     ·have h76:=g76;obtain ⟨e5,e6,e7,e8⟩:a.names=b.names∧a.vars=b.vars∧a.shapes.length=b.shapes.length∧a.parts.length=b.parts.length:=by
        simp at h76;exact ⟨h76.1.1.1,h76.1.1.2,by omega,by omega⟩
      refine W.skip (thn_n (W.seq (W.seq (W.region (L.val (x_as (v:=.int _ _) rfl) rfl ?_)))));refine L.nil (thn_n (W.block (W.loop (fun m' E w'=>Bel w w'∧ShRow A w' ph rowh a.shapes∧ShRow A' w' qh roxh b.shapes∧RecRow TmC 9 A w' p row a.parts∧RecRow TmC 9 A' w' q rox b.parts∧Box w' w.heap.size 26 [.int .i64 a.kind,S a.of,S a.name,.int .i64 a.n,.slice pn a.names.length pnc,.slice pv a.vars.length pvc,.slice ph a.shapes.length phc,.slice p a.parts.length cap,.int .i64 a.place]∧Box w' w3.heap.size 26 [.int .i64 b.kind,S b.of,S b.name,.int .i64 b.n,.slice qn b.names.length qnc,.slice qv b.vars.length qvc,.slice qh b.shapes.length qhc,.slice q b.parts.length qap,.int .i64 b.place]∧∃ k:Nat,k≤a.shapes.length∧m'=a.shapes.length - k∧E 7=.int .i64 (k:Nat)∧E 3=.pointer (some ⟨w.heap.size,0,none⟩)∧E 4=.pointer (some ⟨w3.heap.size,0,none⟩)∧E 2=.bool both∧a.shapes.take k=b.shapes.take k) (a.shapes.length) ?_ ?_)))
      ·exact ⟨hB,hrh,hxh,hr,hx,bx3,bx4,0,by omega,rfl,rfl,rfl,rfl,rfl,rfl⟩
      ·rintro m' E w0 ⟨hB,hrh,hxh,hr,hx,bx3,bx4,k,hk,rfl,e7',e3',e4',e2',ht⟩;rw [upd_self e7',upd_self e3',upd_self e4',upd_self e2'];refine W.seq (W.seq (W.region (L.val (x_mv (v:=.int _ _) rfl) rfl ?_)));refine L.val (x_fa ktme_fo26_6 rfl) rfl ?_;refine L.val (x_ld (v:=.slice _ _ _) ktme_oc23 rfl (bx3.cell0 rfl)) rfl ?_;refine L.val (x_len_slice Tryz.underlying23 rfl) rfl ?_;refine L.val (x_lss rfl rfl) rfl ?_;refine L.nil (thn_n (W.cond (b:=_) rfl (fun g81=>?_) (fun g81=>?_)))
       ·have h81:=of_decide_eq_true g81;have hlt:k<a.shapes.length:=by omega
        have hlt':k<b.shapes.length:=by omega
        obtain ⟨bb,o,rfl,hc⟩:=hrh.elem hlt;obtain ⟨bb',o',rfl,hc'⟩:=hxh.elem hlt';refine W.skip (thn_n (W.seq (W.block (W.seq (W.drawB ktme_mixed kr_ ?_)))));refine LQ.val (fun w hw=>x_fa ktme_fo26_6 rfl) rfl ?_;refine LQ.val (fun w hw=>x_ld (v:=.slice _ _ _) ktme_oc23 rfl (hw.keep (bx3.cell0 rfl))) rfl ?_;refine LQ.val (fun w hw=>x_mv (v:=.int _ _) rfl) rfl ?_;refine LQ.val (fun w hw=>x_ia  Tryz.underlying23 ktme_sz45 rfl rfl rfl om_) rfl ?_;refine LQ.val (fun w hw=>x_ldn (vs:=rowh k) ktme_ag45 rfl (hrh.five k hlt) (hw.keepRow (hrh.five k hlt) hc)) rfl ?_;refine LQ.val (fun w hw=>x_fa ktme_fo26_6 rfl) rfl ?_;refine LQ.val (fun w hw=>x_ld (v:=.slice _ _ _) ktme_oc23 rfl (hw.keep (bx4.cell0 rfl))) rfl ?_;refine LQ.val (fun w hw=>x_mv (v:=.int _ _) rfl) rfl ?_;refine LQ.val (fun w hw=>x_ia  Tryz.underlying23 ktme_sz45 rfl rfl rfl om_) rfl ?_;refine LQ.val (fun w hw=>x_ldn (vs:=roxh k) ktme_ag45 rfl (hxh.five k hlt') (hw.keepRow (hxh.five k hlt') hc')) rfl ?_;refine LQ.ret (fun w=>x_call ktme_en30 rfl) (fun w hw=>Ret.mono (equal07 _ _ _ (Nat.lt_succ_self _) A A' _ _ _ ((hrh.each k hlt).carry hw) ((hxh.each k hlt').carry hw)) (fun _ _ h=>⟨h.1,Gr.trans hw h.2⟩)) rfl ?_;refine LQ.val (fun w hw=>x_not rfl) rfl ?_;refine LQ.nil ?_;intro w84 hw;have hB:=hB.carry hw;have hrh:=hrh.carry hw;have hxh:=hxh.carry hw;have hr:=hr.carry hw;have hx:=hx.carry hw;have bx3:=bx3.carry hw;have bx4:=bx4.carry hw;refine thn_n (W.cond (b:=_) rfl (fun g95=>?_) (fun g95=>?_))
        ·have h95:=(not_t g95);refine W.seq (W.region (L.val (x_as (v:=.bool _) rfl) rfl ?_));refine L.nil (thn_n (W.ret (blk_r (thn_r (thn_r (blk_r (thn_r (fin_mk (.inr rfl) ?_))))))));exact ⟨vb (Eq.symm (eqW_f (fun e=>by
           have e9:=(key_iff.1 e).2.2.2.2.2.2.2.1;rw [e9,eqS_t rfl] at h95;cases h95))),hB⟩
        ·have h95:=(not_f g95);refine W.skip (blk_n (thn_n (W.region (L.val (x_mv (v:=.int _ _) rfl) rfl ?_))));refine L.val (x_add rfl rfl (wr64 om_)) rfl ?_;refine L.val (x_as (v:=.int _ _) rfl) rfl ?_;refine L.nil (thn_n ⟨rfl,?_⟩);exact ⟨a.shapes.length - (k+1),by omega,hB,hrh,hxh,hr,hx,bx3,bx4,k+1,by omega,rfl,rfl,rfl,rfl,rfl,take_eq_snoc (d:=default) hlt hlt' ht (eqS_iff.1 h95)⟩
       ·have h81:=dlt_f g81;rw [List.take_of_length_le om_,List.take_of_length_le om_] at ht;refine W.exit (thn_x (thn_x (blk_hit ?_)));refine thn_n (W.seq (W.seq (W.region (L.val (x_as (v:=.int _ _) rfl) rfl ?_))));refine L.nil (thn_n (W.block (W.loop (fun m' E w'=>Bel w w'∧RecRow TmC 9 A w' p row a.parts∧RecRow TmC 9 A' w' q rox b.parts∧Box w' w.heap.size 26 [.int .i64 a.kind,S a.of,S a.name,.int .i64 a.n,.slice pn a.names.length pnc,.slice pv a.vars.length pvc,.slice ph a.shapes.length phc,.slice p a.parts.length cap,.int .i64 a.place]∧Box w' w3.heap.size 26 [.int .i64 b.kind,S b.of,S b.name,.int .i64 b.n,.slice qn b.names.length qnc,.slice qv b.vars.length qvc,.slice qh b.shapes.length qhc,.slice q b.parts.length qap,.int .i64 b.place]∧∃ k:Nat,k≤a.parts.length∧m'=a.parts.length - k∧E 8=.int .i64 (k:Nat)∧E 3=.pointer (some ⟨w.heap.size,0,none⟩)∧E 4=.pointer (some ⟨w3.heap.size,0,none⟩)∧E 2=.bool both∧(a.parts.map (Tm.key both)).take k=(b.parts.map (Tm.key both)).take k) (a.parts.length) ?_ ?_)))
        ·exact ⟨hB,hr,hx,bx3,bx4,0,by omega,rfl,rfl,rfl,rfl,rfl,rfl⟩
        ·rintro m' E w0 ⟨hB,hr,hx,bx3,bx4,k,hk,rfl,e7',e3',e4',e2',htp⟩;rw [upd_self e7',upd_self e3',upd_self e4',upd_self e2'];refine W.seq (W.seq (W.region (L.val (x_mv (v:=.int _ _) rfl) rfl ?_)));refine L.val (x_fa ktme_fo26_7 rfl) rfl ?_;refine L.val (x_ld (v:=.slice _ _ _) ktme_oc24 rfl (bx3.cell0 rfl)) rfl ?_;refine L.val (x_len_slice Tryz.underlying24 rfl) rfl ?_;refine L.val (x_lss rfl rfl) rfl ?_;refine L.nil (thn_n (W.cond (b:=_) rfl (fun g100=>?_) (fun g100=>?_)))
         ·have h100:=of_decide_eq_true g100;have hlt:k<a.parts.length:=by omega
          have hlt':k<b.parts.length:=by omega
          obtain ⟨bb,o,rfl,-,hc⟩:=hr.elem hlt;obtain ⟨bb',o',rfl,-,hc'⟩:=hx.elem hlt';refine W.skip (thn_n (W.seq (W.block (W.seq (W.drawB ktme_mixed kr_ ?_)))));refine LQ.val (fun w hw=>x_fa ktme_fo26_7 rfl) rfl ?_;refine LQ.val (fun w hw=>x_ld (v:=.slice _ _ _) ktme_oc24 rfl (hw.keep (bx3.cell0 rfl))) rfl ?_;refine LQ.val (fun w hw=>x_mv (v:=.int _ _) rfl) rfl ?_;refine LQ.val (fun w hw=>x_ia  Tryz.underlying24 ktme_sz26 rfl rfl rfl om_) rfl ?_;refine LQ.val (fun w hw=>x_ldn (vs:=row k) ktme_ag26 rfl (hr.len k hlt) (hw.keepRow (hr.len k hlt) (hr.elemAt hlt))) rfl ?_;refine LQ.val (fun w hw=>x_fa ktme_fo26_7 rfl) rfl ?_;refine LQ.val (fun w hw=>x_ld (v:=.slice _ _ _) ktme_oc24 rfl (hw.keep (bx4.cell0 rfl))) rfl ?_;refine LQ.val (fun w hw=>x_mv (v:=.int _ _) rfl) rfl ?_;refine LQ.val (fun w hw=>x_ia  Tryz.underlying24 ktme_sz26 rfl rfl rfl om_) rfl ?_;refine LQ.val (fun w hw=>x_ldn (vs:=rox k) ktme_ag26 rfl (hx.len k hlt') (hw.keepRow (hx.len k hlt') (hx.elemAt hlt'))) rfl ?_;refine LQ.val (fun w hw=>x_mv (v:=.bool _) rfl) rfl ?_;refine LQ.ret (fun w=>x_call ktme_en18 rfl) (fun w hw=>Ret.mono (ih _ _ (by have:=Tm.part_lt hlt;omega) A A' _ _ _ ((hr.each k hlt).carry hw) ((hx.each k hlt').carry hw)) (fun _ _ h=>⟨h.1,Gr.trans hw h.2⟩)) rfl ?_;refine LQ.val (fun w hw=>x_not rfl) rfl ?_;refine LQ.nil ?_;intro w103 hw;have hB:=hB.carry hw;have hr:=hr.carry hw;have hx:=hx.carry hw;have bx3:=bx3.carry hw;have bx4:=bx4.carry hw;refine thn_n (W.cond (b:=_) rfl (fun g115=>?_) (fun g115=>?_))
          ·have h115:=(not_t g115);refine W.seq (W.region (L.val (x_as (v:=.bool _) rfl) rfl ?_));refine L.nil (thn_n (W.ret (blk_r (thn_r (thn_r (blk_r (thn_r (fin_mk (.inr rfl) ?_))))))));exact ⟨vb (Eq.symm (eqW_f (fun e=>by
             have e9:=(key_iff.1 e).2.2.2.2.2.2.2.2;have e10:(a.parts.map (Tm.key both)).getD k ((default:Tm).key both)=(b.parts.map (Tm.key both)).getD k ((default:Tm).key both):=by rw [e9]
             rw [key_getD hlt,key_getD hlt'] at e10;rw [eqW_t e10] at h115;cases h115))),hB⟩
          ·have h115:=(not_f g115);refine W.skip (blk_n (thn_n (W.region (L.val (x_mv (v:=.int _ _) rfl) rfl ?_))));refine L.val (x_add rfl rfl (wr64 om_)) rfl ?_;refine L.val (x_as (v:=.int _ _) rfl) rfl ?_;refine L.nil (thn_n ⟨rfl,?_⟩);exact ⟨a.parts.length - (k+1),by omega,hB,hr,hx,bx3,bx4,k+1,by omega,rfl,rfl,rfl,rfl,rfl,take_eq_snoc (d:=(default:Tm).key both) (by simpa using hlt) (by simpa using hlt') htp (by rw [key_getD hlt,key_getD hlt'];exact eqW_iff.1 h115)⟩
         ·have h100:=dlt_f g100;refine W.exit (thn_x (thn_x (blk_hit ?_)));refine thn_n (W.seq (W.region (L.val (x_as (v:=.bool _) rfl) rfl ?_)));refine L.nil (thn_n (W.ret (fin_mk (.inr rfl) ?_)));rw [List.take_of_length_le (by simp;omega),List.take_of_length_le (by simp;omega)] at htp;exact ⟨vb (eqW_t (key_iff.2 ⟨hkey.1,hkey.2.1,hkey.2.2.1,hkey.2.2.2.1,hkey.2.2.2.2,e5,e6,ht,htp⟩)).symm,hB⟩
end Go.Gx
namespace Go.Gx
open Go.Proofs
mutual
/-- The expression with its place at b, its i-th part's at b + i, and so on down. -/
def Tm.moved:Tm→Int→Tm | .mk k o m n l v ss ps _,b=>.mk k o m n l v ss (movedL ps b) b
def movedL:List Tm→Int→List Tm | [],_=>[] | p :: ps,b=>p.moved b :: movedL ps (b+1)
end
theorem moved_eq (s:Tm) (b:Int):s.moved b=.mk s.kind s.of s.name s.n s.names s.vars s.shapes (movedL s.parts b) b:=by
  cases s with
  | mk k o m n l v ss ps a=>exact Tm.moved.eq_1 ..
theorem movedL_length:∀ (l:List Tm) (b:Int),(movedL l b).length=l.length
  | [],_=>by rw [movedL]
  | p :: ps,b=>by rw [movedL,List.length_cons,movedL_length ps,List.length_cons]
theorem movedL_take:∀ (l:List Tm) (b:Int) (i:Nat),i<l.length→(movedL l b).take (i+1)=(movedL l b).take i++[(l.getD i default).moved (b+i)]
  | [],_,_,h=>absurd h (by simp)
  | p :: ps,b,0,_=>by rw [movedL];simp
  | p :: ps,b,i+1,h=>by
    rw [movedL,List.take_succ_cons,List.take_succ_cons,movedL_take ps (b+1) i (by simpa using h),List.getD_cons_succ,List.cons_append];congr 4;omega
mutual
theorem bare_moved:∀ (s:Tm) (b:Int),(s.moved b).bare=s.bare
  | .mk k o m n l v ss ps a,b=>by
    rw [Tm.moved,Tm.bare_eq,Tm.bare_eq];show Tm.mk k o m n l v ss ((movedL ps b).map Tm.bare) 0=Tm.mk k o m n l v ss (ps.map Tm.bare) 0;rw [bareL_moved ps b]
theorem bareL_moved:∀ (l:List Tm) (b:Int),(movedL l b).map Tm.bare=l.map Tm.bare
  | [],_=>by rw [movedL]
  | p :: ps,b=>by rw [movedL,List.map_cons,List.map_cons,bare_moved p b,bareL_moved ps (b+1)]
end
mutual
theorem size_bare:∀ s:Tm,s.bare.size=s.size
  | .mk k o m n l v ss ps a=>by
    rw [Tm.bare_eq,Tm.size_eq,Tm.size_eq];show 1+tsizeL (ps.map Tm.bare)=1+tsizeL ps;rw [sizeL_bare ps]
theorem sizeL_bare:∀ l:List Tm,tsizeL (l.map Tm.bare)=tsizeL l
  | []=>rfl
  | p :: ps=>by rw [List.map_cons,tsizeL,tsizeL,size_bare p,sizeL_bare ps]
end
mutual
theorem deep_bare:∀ s:Tm,s.bare.deep=s.deep
  | .mk k o m n l v ss ps a=>by
    rw [Tm.bare_eq,Tm.deep_eq,Tm.deep_eq];show 1+tdeepL (ps.map Tm.bare)=1+tdeepL ps;rw [deepL_bare ps]
theorem deepL_bare:∀ l:List Tm,tdeepL (l.map Tm.bare)=tdeepL l
  | []=>rfl
  | p :: ps=>by rw [List.map_cons,tdeepL,tdeepL,deep_bare p,deepL_bare ps]
end
theorem size_moved (s:Tm) (b:Int):(s.moved b).size=s.size:=by rw [← size_bare,bare_moved,size_bare]
theorem deep_moved (s:Tm) (b:Int):(s.moved b).deep=s.deep:=by rw [← deep_bare,bare_moved,deep_bare]
def plc (t:Tm):Bool:=decide (0≤t.place)
mutual
theorem plcs_moved:∀ (s:Tm) (b:Int),0≤b→(s.moved b).allB plc=true
  | .mk k o m n l v ss ps a,b,hb=>by
    have h:=plcL_moved ps b hb;rw [Tm.moved,Tm.allB_eq];show (decide (0≤b) && tallL plc (movedL ps b))=true;rw [h,decide_eq_true hb];rfl
theorem plcL_moved:∀ (l:List Tm) (b:Int),0≤b→tallL plc (movedL l b)=true
  | [],_,_=>by rw [movedL,tallL]
  | p :: ps,b,hb=>by rw [movedL,tallL,plcs_moved p b hb,plcL_moved ps (b+1) om_];rfl
end
def fitN (neg:Bool) (k:Int) (o m:Str) (n:Int) (l v:List Str) (ss:List Sh) (pn:Nat):Bool:=
  let rm (a b c d:Int):Bool:=decide ((l.length:Int)=a∧(v.length:Int)=b∧(ss.length:Int)=c∧(pn:Int)=d)
  if (((neg || (!decide (n=0) && !decide (k=1))) || (!(o == []) && !decide (k=5))) || !ss.all typedS)=true then false
  else if k=1 then ((m == [] && decide (0≤n)) && decide (n≤999999999999999)) && rm 0 0 0 0
  else if k=2 then quotS m && rm 0 0 0 0
  else if k=3∨k=4 then m == [] && rm 0 0 0 0
  else if k=5 then (nameS m && (o == [] || nameS o)) && rm 0 0 0 0
  else if k=6 then ((m == [] && decide ((l.length:Int)≤4096)) && apartS l) && rm l.length 0 l.length 1
  else if k=7 then (m == [] && decide (0<(pn:Int))) && rm 0 0 0 pn
  else if k=8 then (m == [] && apartS l) && rm l.length 0 0 l.length
  else if k=9∨k=10 then nameS m && rm 0 0 0 1
  else if k=11 then m == [] && rm 0 0 1 pn
  else if k=12 then m == [] && rm 0 0 1 3
  else if k=13 then ((m == [] && apartS l) && v.all nameS) && rm l.length l.length (l.length+1) (l.length+1)
  else if k=14 then nameS m && rm 0 0 0 2
  else if k=15 then m == [] && rm 0 0 1 1
  else if k=16∨k=17 then upperS m && rm 0 0 0 1
  else false
theorem fitsT_N (k:Int) (o m:Str) (n:Int) (l v:List Str) (ss:List Sh) (ps:List Tm) (a:Int):fitsT (.mk k o m n l v ss ps a)=fitN (decide (a<0)) k o m n l v ss ps.length:=rfl
theorem fitsT_bare (s:Tm):fitsT s=(plc s && fitsT s.bare):=by
  cases s with
  | mk k o m n l v ss ps a=>
    rw [Tm.bare_eq];unfold plc;show fitsT (.mk k o m n l v ss ps a)=(decide (0≤a) && fitsT (.mk k o m n l v ss (ps.map Tm.bare) 0));rw [fitsT_N,fitsT_N,List.length_map];by_cases h:0≤a
    · rw [decide_eq_true h,Bool.true_and,decide_eq_false (show ¬ a<0 by omega),decide_eq_false (show ¬ (0:Int)<0 by omega)]
    · rw [decide_eq_false h,Bool.false_and,decide_eq_true (show a<0 by omega)];rfl
mutual
theorem fitsA_bare:∀ s:Tm,s.allB fitsT=(s.allB plc && s.bare.allB fitsT)
  | .mk k o m n l v ss ps a=>by
    have h:=fitsL_bare ps;have h2:=fitsT_bare (.mk k o m n l v ss ps a);rw [Tm.allB_eq,Tm.allB_eq,Tm.allB_eq (s:=Tm.bare _),h2];have e:(Tm.bare (.mk k o m n l v ss ps a)).parts=ps.map Tm.bare:=by rw [Tm.bare_eq];rfl
    rw [e];show (plc _ && fitsT _ && tallL fitsT ps)=(plc _ && tallL plc ps && (fitsT _ && tallL fitsT (ps.map Tm.bare)));rw [h];cases plc (.mk k o m n l v ss ps a) <;> cases tallL plc ps <;> cases fitsT (Tm.bare (.mk k o m n l v ss ps a)) <;> rfl
theorem fitsL_bare:∀ l:List Tm,tallL fitsT l=(tallL plc l && tallL fitsT (l.map Tm.bare))
  | []=>by rw [List.map_nil,tallL,tallL];rfl
  | p :: ps=>by
    rw [List.map_cons,tallL,tallL,tallL,fitsA_bare p,fitsL_bare ps];cases p.allB plc <;> cases tallL plc ps <;> cases p.bare.allB fitsT <;> rfl
end
theorem check_bare {s:Tm} (h:checkT s=0):checkT s.bare=0:=by
  obtain ⟨k1,k2,k3⟩:=check_ok h;have h4:s.bare.allB fitsT=true:=by
    rw [fitsA_bare,Bool.and_eq_true] at k3;exact k3.2
  unfold checkT;rw [size_bare,deep_bare,if_neg om_,if_neg om_,h4];rfl
theorem check_moved {s:Tm} {b:Int} (hb:0≤b) (h:checkT s=0):checkT (s.moved b)=0:=by
  obtain ⟨k1,k2,k3⟩:=check_ok h;have h4:s.bare.allB fitsT=true:=by
    rw [fitsA_bare,Bool.and_eq_true] at k3;exact k3.2
  unfold checkT;rw [size_moved,deep_moved,if_neg om_,if_neg om_,fitsA_bare,bare_moved,h4,plcs_moved s b hb];rfl
end Go.Gx
namespace Go.Gx
section
variable {α : Type} [Inhabited α] {C:Thing α} {k:Nat} [Car C k] {e:TypeId} {B:Nat→Prop} {n0:Nat} {w w':World} {v v':Value} {l:List α} {x:α} {cs:List Value} {R:Nat→Prop}
def GrowM (C:Thing α) (k:Nat) (e:TypeId) (B:Nat→Prop) (n0:Nat) (w:World) (v:Value) (l:List α) (rows:List (List Value)):Prop:=
  RowsC C (fun j=>B j∨some j=v.ownBlock) w rows l∧Own w n0 e k v l.length rows.flatten
omit [Car C k] in
theorem GrowM.nil:GrowM C k e B n0 w (.slice none 0 0) ([]:List α) []:=⟨RowsC.nil,own_nil⟩
omit [Car C k] in
theorem GrowM.lt {rows:List (List Value)} (h:GrowM C k e B n0 w v l rows) {j:Nat} (hj:some j=v.ownBlock):n0≤j∧j<w.heap.size:=Own.lt h.2 hj
omit [Car C k] in
theorem GrowM.shape {rows:List (List Value)} (h:GrowM C k e B n0 w v l rows):∃ a c,v=.slice a l.length c∧l.length≤c:=own_shape h.2
theorem GrowM.carryR {rows:List (List Value)} (h:GrowM C k e B n0 w v l rows) (g:Gr R w w') (hR:∀ j,R j→B j∧j<n0):GrowM C k e B n0 w' v l rows:=
  ⟨h.1.carryR g (fun j r=>.inl (hR j r).1),Own.carryR h.2 g (fun j hj r=>by have:=(Own.lt h.2 hj).1;have:=(hR j r).2;omega)⟩
theorem GrowM.carry {rows:List (List Value)} (h:GrowM C k e B n0 w v l rows) (g:Bel w w'):GrowM C k e B n0 w' v l rows:=h.carryR g (fun _ f=>f.elim)
theorem GrowM.done {rows:List (List Value)} (h:GrowM C k e B n0 w v l rows) (hl:l.length≤70368744177664) (hBn:∀ j,B j→j<n0):RecsAt C k B w v l:=
  h.1.doneB h.2 hl (fun _ h=>.inl h) (fun j hj h2=>by have:=(Own.lt h.2 hj).1;have:=hBn j h2;omega)
theorem GrowM.snoc {rows:List (List Value)} (h:GrowM C k e B n0 w v l rows) (hx:C (fun j=>B j∨some j=v.ownBlock∨w.heap.size≤j) w cs x) (hBs:∀ j,B j→j<w.heap.size) (hO:Own w' n0 e k v' (l.length+1) (rows.flatten++cs)) (g:Gr (fun j=>some j=v.ownBlock) w w')
    (hob:v'.ownBlock=v.ownBlock∨v'.ownBlock=some w.heap.size):GrowM C k e B n0 w' v' (l++[x]) (rows++[cs]):=by
  refine ⟨?_,by rw [List.length_append,List.length_singleton,List.flatten_append];simpa using hO⟩;have hr:RowsC C (fun j=>B j∨some j=v.ownBlock∨w.heap.size≤j) w rows l:=h.1.mono (fun b hb hA=>by rcases hA with hA | hA | hA;exact .inl hA;exact .inr hA;omega);have h2:=(hr.append (RowsC.one hx)).carryR g (fun j hj=>.inr (.inl hj));refine h2.mono (fun b _ hA=>?_);rcases hA with hA | hA
  · exact .inl hA
  · rcases hob with e | e
    · exact .inr (.inl (hA.trans e))
    · have:=Option.some.inj (hA.trans e);exact .inr (.inr om_)
end
end Go.Gx
namespace Go.Gx
open Go.Proofs
theorem one_bs {a:List Value} (ha:a.length=9):(partsOk 9 0 [(0,Value.agg a.toArray)] && decide ([((0:Nat),Value.agg a.toArray)].length=1) && decide (0<1) && decide (1 * 9≤16777216))=true:=by
  simp [partsOk,ha,Value.cells]
theorem one_cells {a:List Value}:([((0:Nat),Value.agg a.toArray)].map fun x=>x.2.cells.toList).flatten=a:=by simp [Value.cells]
end Go.Gx
