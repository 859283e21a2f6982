/- A disk whose power may go: Flush, Boot. Conditions: none. -/
import Derived.Test.YtdklfpoofgagmaaGreatQaDsf1
import Derived.Test.YtdklfpoofgagmaaGreatQaMore
import Derived.Test.YtdklfpoofgagmaaGreatQaRowG
import Derived.Test.YtdklfpoofgagmaaGreatQaStoE
import Derived.Test.YtdklfpoofgagmaaGreatQaWal4
namespace Go.Gx
open Go.Proofs
theorem kdsf5_ag111:aggT Tryz.prog 111 65=true:=by kernel_rfl
theorem kdsf5_ag50:aggT Tryz.prog 50 3=true:=by kernel_rfl
theorem kdsf5_ag92:aggT Tryz.prog 92 64=true:=by kernel_rfl
theorem kdsf5_en51:Go.Proofs.Enters Tryz.prog 51:=Go.Proofs.enters_of Tryz.func51 kr_ rfl
theorem kdsf5_en53:Go.Proofs.Enters Tryz.prog 53:=Go.Proofs.enters_of Tryz.func53 kr_ rfl
theorem kdsf5_en54:Go.Proofs.Enters Tryz.prog 54:=Go.Proofs.enters_of Tryz.func54 kr_ rfl
theorem kdsf5_en57:Go.Proofs.Enters Tryz.prog 57:=Go.Proofs.enters_of Tryz.func57 kr_ rfl
theorem kdsf5_fo111_0:fieldOff Tryz.prog 111 0=some 0:=by kernel_rfl
theorem kdsf5_fo111_1:fieldOff Tryz.prog 111 1=some 1:=by kernel_rfl
theorem kdsf5_fo90_0:fieldOff Tryz.prog 90 0=some 0:=by kernel_rfl
theorem kdsf5_fo90_1:fieldOff Tryz.prog 90 1=some 1:=by kernel_rfl
theorem kdsf5_fo90_2:fieldOff Tryz.prog 90 2=some 2:=by kernel_rfl
theorem kdsf5_fo90_5:fieldOff Tryz.prog 90 5=some 7:=by kernel_rfl
theorem kdsf5_mixed:Tryz.prog.follows .mixedOrders=true:=by kernel_rfl
theorem kdsf5_oc3:oneCellT Tryz.prog 3=true:=by kernel_rfl
theorem kdsf5_oc87:oneCellT Tryz.prog 87=true:=by kernel_rfl
theorem kdsf5_oc88:oneCellT Tryz.prog 88=true:=by kernel_rfl
theorem kdsf5_sz111:(Tryz.prog.info? 111).map (·.size)=some 65:=by kernel_rfl
theorem kdsf5_sz4:(Tryz.prog.info? 4).map (·.size)=some 1:=by kernel_rfl
theorem kdsf5_sz88:(Tryz.prog.info? 88).map (·.size)=some 1:=by kernel_rfl
theorem kdsf5_sz92:(Tryz.prog.info? 92).map (·.size)=some 64:=by kernel_rfl
theorem kdsf5_zr111:(Tryz.prog.info? 111).bind (·.zero)=some (Value.agg [Value.int .i64 0,Value.int .u8 0,Value.int .u8 0,Value.int .u8 0,Value.int .u8 0,Value.int .u8 0,Value.int .u8 0,Value.int .u8 0,Value.int .u8 0,Value.int .u8 0,Value.int .u8 0,Value.int .u8 0,Value.int .u8 0,Value.int .u8 0,Value.int .u8 0,Value.int .u8 0,Value.int .u8 0,Value.int .u8 0,Value.int .u8 0,Value.int .u8 0,Value.int .u8 0,Value.int .u8 0,Value.int .u8 0,Value.int .u8 0,Value.int .u8 0,Value.int .u8 0,Value.int .u8 0,Value.int .u8 0,Value.int .u8 0,Value.int .u8 0,Value.int .u8 0,Value.int .u8 0,Value.int .u8 0,Value.int .u8 0,Value.int .u8 0,Value.int .u8 0,Value.int .u8 0,Value.int .u8 0,Value.int .u8 0,Value.int .u8 0,Value.int .u8 0,Value.int .u8 0,Value.int .u8 0,Value.int .u8 0,Value.int .u8 0,Value.int .u8 0,Value.int .u8 0,Value.int .u8 0,Value.int .u8 0,Value.int .u8 0,Value.int .u8 0,Value.int .u8 0,Value.int .u8 0,Value.int .u8 0,Value.int .u8 0,Value.int .u8 0,Value.int .u8 0,Value.int .u8 0,Value.int .u8 0,Value.int .u8 0,Value.int .u8 0,Value.int .u8 0,Value.int .u8 0,Value.int .u8 0,Value.int .u8 0].toArray):=by kernel_rfl
theorem flush_f (n0 b:Nat) (D:Dk) (K:Fl) (w:World) (h:DiskF n0 w b D K) (ha:D.armed≤9223372036854775807) (hd:D.dead=false) (hn:n0≤w.heap.size) (hf:D.ops<1000000000):
    Ret Tryz.prog 23 #[.pointer (some ⟨b,0,none⟩)] w fun v w'=>v=.int .i64 (if D.armed=1 then 190 else 0)∧DiskF n0 w' b (flF D K) (Kn D K)∧Dg dkTy n0 w w':=by
  obtain ⟨h1,h2,bp,vc,vk,h3,hb,hk,hp,hc⟩:=id h;have hk:AllBl n0 w vk K.keep:=hk;obtain ⟨pk,ck,rfl,-⟩:=id hk;obtain ⟨ac,cc,rfl,hcc⟩:=own_shape hc;have hr:readyD D 0=0:=by unfold readyD;rw [hd,if_neg (by decide),if_pos ⟨by omega,by have:=h2.pos;omega⟩]
  have hbpne:bp≠b:=box_ne hp hb (by decide);have hqc:∀ j,some j=(Value.slice ac D.ca.length cc).ownBlock→j≠b∧j≠bp:=fun j hj=>⟨fun e=>own_box_ne hc hb (by decide) (e ▸ hj),fun e=>own_box_ne hc hp (by decide) (e ▸ hj)⟩
  have hca:∀ x∈D.ca,x.2.length=64:=fun x hx=>(h2.cac x hx).2
  have hfew:=h2.few;have hD1:DkOk { D with ops:=D.ops+1,armed:=D.armed - 1 }:=⟨h2.pos,h2.small,h2.sec,h2.cac,by dsimp only;omega⟩;refine ret_of_W Tryz.func23 rfl (Nat.le_of_ble_eq_true rfl) (res1 rfl) ?_;refine W.seq (W.region (L.val (x_as (v:=.int _ _) rfl) rfl ?_));refine L.nil (thn_n (W.seq (W.seq (W.region (L.val (x_mv (v:=.pointer _) rfl) rfl ?_)))));refine L.ret (x_call kdsf5_en51 rfl) rfl (ready_d n0 b D _ _ h.at) ?_;rintro _ w7 ⟨rfl,hq⟩;rw [hq,hr];refine L.val (x_as (v:=.int _ _) rfl) rfl ?_;refine L.nil (thn_n (W.seq (W.region (L.val (x_mv (v:=.int _ _) rfl) rfl ?_))));refine L.val (x_neq rfl rfl) rfl ?_;refine L.nil (thn_n (W.cond (b:=_) rfl (fun g9=>?_) (fun g9=>?_)))
  ·have h9:=dne_t g9;cases g9
  ·have h9:=dne_f g9;refine W.skip (thn_n (W.seq (W.seq (W.region (L.val (x_mv (v:=.pointer _) rfl) rfl ?_)))));refine L.ret (x_call kdsf5_en53 rfl) rfl (falls_f b _ _ _ _ _ D _ hb om_ ha) ?_;rintro _ w12 ⟨rfl,hb12,hG12⟩;have hp:=hp.carryR hG12 (fun e=>hbpne e);have hc:=Own.carryR hc hG12 (fun j hj e=>(hqc j hj).1 e);have hk:=hk.box hb kr_ h1 hG12;have hG:Dg dkTy n0 w w12:=hG12.mono (fun k _ e=>by have e:k=b:=e;rw [e];exact DkB.box hb kr_ h1);have hb:=hb12;refine L.nil (thn_n (W.cond (b:=_) rfl (fun g12=>?_) (fun g12=>?_)))
   ·have h12:=g12;have ha1:D.armed=1:=by simpa using g12
    refine W.seq (W.region (L.val (x_mv (v:=.pointer _) rfl) rfl ?_));refine L.val (x_mv (v:=.pointer _) rfl) rfl ?_;refine L.val (x_nil rfl) rfl ?_;refine L.val (x_fa kdsf5_fo90_2 rfl) rfl ?_;refine L.val (x_ldn (vs:=[.slice pk K.keep.length ck,.int .i64 K.torn,.int .i64 K.cut]) kdsf5_ag50 rfl rfl (fall_row hb)) rfl ?_;refine L.ret (x_call kdsf5_en54 rfl) rfl (drop_f n0 b bp _ _ _ _ _ { D with ops:=D.ops+1,armed:=D.armed - 1 } K _ h1 h3 hD1 hb hk hp hc) ?_;rintro _ w18 ⟨hb18,hp18,hG18⟩;refine L.nil (thn_n (W.seq (W.region (L.val (x_as (v:=.int _ _) rfl) rfl ?_))));refine L.nil (thn_n (W.ret (thn_r (fin_mk (.inr rfl) ?_))));have e:flF D K=dropD { D with ops:=D.ops+1,armed:=D.armed - 1 } K:=by unfold flF;rw [if_pos ha1];rfl
    rw [e,if_pos ha1];unfold Kn;rw [if_pos ha1];exact ⟨rfl,diskF_drop h1 h3 hD1 hb18 hp18,hG.trans hG18⟩
   ·have h12:=g12;have ha1:¬ D.armed=1:=by simpa using g12
    refine W.skip (thn_n (W.seq (W.seq (W.region (L.val (x_mv (v:=.pointer _) rfl) rfl ?_)))));refine L.val (x_nil rfl) rfl ?_;refine L.val (x_fa kdsf5_fo90_1 rfl) rfl ?_;refine L.val (x_ld (v:=.slice _ _ _) kdsf5_oc88 rfl (hb.cell0 rfl)) rfl ?_;refine L.val (x_len_slice Tryz.underlying88 rfl) rfl ?_;refine L.val (x_mv (v:=.int _ _) rfl) rfl ?_;refine L.nil (thn_n (W.block (W.loop (fun m' E w'=>∃ (j:Nat),m'=D.ca.length - j∧E 0=.pointer (some ⟨b,0,none⟩)∧E 22=.slice ac D.ca.length cc∧E 23=.int .i64 (D.ca.length:Nat)∧E 24=.int .i64 (j:Nat)∧(j≤D.ca.length)∧(Dg dkTy n0 w w')∧(Box w' b 90 (dkV (.slice (some ⟨bp,0,none⟩) D.pl.length D.pl.length) (.slice ac D.ca.length cc) (.slice pk K.keep.length ck) K.torn K.cut { D with ops:=D.ops+1,armed:=D.armed - 1 }))∧(Box w' bp 92 (plV (apD D.pl (D.ca.take j))))∧(Own w' n0 111 65 (.slice ac D.ca.length cc) D.ca.length (D.ca.map waV).flatten)∧(AllBl n0 w' (.slice pk K.keep.length ck) K.keep)) (D.ca.length) ?_ ?_)))
    ·exact ⟨0,by omega,by first | rfl | exact vi om_ | exact vs (by first | assumption | (rw [hst];done) | (rw [hst];simp only [List.append_assoc])),by first | rfl | exact vi om_ | exact vs (by first | assumption | (rw [hst];done) | (rw [hst];simp only [List.append_assoc])),by first | rfl | exact vi om_ | exact vs (by first | assumption | (rw [hst];done) | (rw [hst];simp only [List.append_assoc])),by first | rfl | exact vi om_ | exact vs (by first | assumption | (rw [hst];done) | (rw [hst];simp only [List.append_assoc])),ao_,ao_,ao_,ao_,ao_,ao_⟩
    ·rintro _ E wL25 ⟨j,em,e0,e22,e23,e24,hj,hG,hb,hp,hc,hk⟩;rw [upd_self e0,upd_self e22,upd_self e23,upd_self e24];refine W.seq (W.region (L.val (x_lss rfl rfl) rfl ?_));refine L.nil (thn_n (W.seq (W.cond (b:=_) rfl (fun g25=>?_) (fun g25=>?_))))
     ·have h25:=of_decide_eq_true g25;have hlt:j<D.ca.length:=by omega
      obtain ⟨bc,rfl⟩:=own_pos hc om_;have hrow:=own_rowK hc (ca_lens hca) (i:=j) (by rw [List.length_map];exact hlt);rw [ca_get hlt] at hrow;obtain ⟨x,hx⟩:∃ x,x=D.ca.getD j default:=⟨_,rfl⟩;rw [← hx] at hrow;have hxm:x∈D.ca:=by rw [hx,List.getD_eq_getElem?_getD,List.getElem?_eq_getElem hlt];exact List.getElem_mem hlt
      obtain ⟨hx1,hx2⟩:=h2.cac x hxm;have hwl:(waV x).length=65:=waV_len hx2;have hst:=apD_take (pl:=D.pl) hlt;rw [← hx] at hst;have hsec:∀ s∈apD D.pl (D.ca.take j),s.length=64:=apD_sec h2.sec (fun y hy=>hca y (List.mem_of_mem_take hy));have hapl:=apD_len (D.ca.take j) D.pl;have hbl:=hb.lt;have hbpl:=hp.lt;have hB:=Gr.refl (fun _=>False) wL25;refine W.skip (thn_n (W.seq (W.block (W.seq (W.region ?_)))));have hc0:=hc;refine L.val (x_ia (j:=j) Tryz.underlying88 kdsf5_sz111 rfl rfl om_ om_) rfl ?_;refine L.val (x_ldn (vs:=waV x) kdsf5_ag111 rfl hwl hrow) rfl ?_;refine L.alloc (cs:=[Value.int .i64 0,Value.int .u8 0,Value.int .u8 0,Value.int .u8 0,Value.int .u8 0,Value.int .u8 0,Value.int .u8 0,Value.int .u8 0,Value.int .u8 0,Value.int .u8 0,Value.int .u8 0,Value.int .u8 0,Value.int .u8 0,Value.int .u8 0,Value.int .u8 0,Value.int .u8 0,Value.int .u8 0,Value.int .u8 0,Value.int .u8 0,Value.int .u8 0,Value.int .u8 0,Value.int .u8 0,Value.int .u8 0,Value.int .u8 0,Value.int .u8 0,Value.int .u8 0,Value.int .u8 0,Value.int .u8 0,Value.int .u8 0,Value.int .u8 0,Value.int .u8 0,Value.int .u8 0,Value.int .u8 0,Value.int .u8 0,Value.int .u8 0,Value.int .u8 0,Value.int .u8 0,Value.int .u8 0,Value.int .u8 0,Value.int .u8 0,Value.int .u8 0,Value.int .u8 0,Value.int .u8 0,Value.int .u8 0,Value.int .u8 0,Value.int .u8 0,Value.int .u8 0,Value.int .u8 0,Value.int .u8 0,Value.int .u8 0,Value.int .u8 0,Value.int .u8 0,Value.int .u8 0,Value.int .u8 0,Value.int .u8 0,Value.int .u8 0,Value.int .u8 0,Value.int .u8 0,Value.int .u8 0,Value.int .u8 0,Value.int .u8 0,Value.int .u8 0,Value.int .u8 0,Value.int .u8 0,Value.int .u8 0]) kdsf5_zr111 rfl rfl (fun w5 bx5 hw hz5=>?_);have hB:=hB.carry hw;have hb:=hb.carry hw;have hp:=hp.carry hw;have hc:=hc.carry hw;have hk:=hk.carry hw;have bx5o:=bx5;refine L.setRow kdsf5_ag111 rfl rfl bx5 rfl hwl (waV_one x) (fun wl28 bx5 hw hzl28=>?_);have hsz:=hB.size;have hB:=hB.set hw om_;have hb:=hb.carryR hw om_;have hp:=hp.carryR hw (by first | exact fun e=>hbpne e | omega);have hc:=Own.carryR hc hw (fun i hi e=>by have e:i=_:=e;have:=(Own.lt hc0 hi).2;omega);have hk:=hk.box bx5o kr_ om_ hw;have hB28:=hB;refine L.nil (thn_n (W.drawD (fun i=>i=bp∨i=bp) (fun _=>False) 9 kdsf5_mixed (fun wD28 hw=>?_)));have hb:=hb.carry hw;have bx5:=bx5.carry hw;have hc:=hc.carry hw;have hB:=hB.carry hw;have hk:=hk.carry hw;have hB0:=Gr.refl (fun _=>False) wD28;have hR0:=Gr.refl (fun i=>i=bp∨i=bp) wD28;have hD:=hw;refine LAD.take0 (i:=0) rfl kr_ kr_ kr_ kr_ (fun w hw=>x_mv (v:=.pointer _) rfl) rfl ?_;refine LAD.take0 (i:=1) rfl kr_ kr_ kr_ kr_ (fun w hw=>x_nil rfl) rfl ?_;refine LAD.take0 (i:=2) rfl kr_ kr_ kr_ kr_ (fun w hw=>x_fa kdsf5_fo90_0 rfl) rfl ?_;refine LAD.take0 (i:=3) rfl kr_ kr_ kr_ kr_ (fun w hw=>x_ld (v:=.slice _ _ _) kdsf5_oc87 rfl (hw.keepR (fun e=>by have e:(_:Nat)=_:=e.elim id id;(try dsimp only at e);omega) (hb.cell0 rfl))) rfl ?_;refine LAD.take0 (i:=4) rfl kr_ kr_ kr_ kr_ (fun w hw=>x_fa kdsf5_fo111_0 rfl) rfl ?_;refine LAD.take0 (i:=5) rfl kr_ kr_ kr_ kr_ (fun w hw=>x_ld (v:=.int _ _) kdsf5_oc3 rfl (hw.keepR (fun e=>by have e:(_:Nat)=_:=e.elim id id;(try dsimp only at e);omega) (bx5.cell0 rfl))) rfl ?_;refine LAD.take0 (i:=6) rfl kr_ kr_ kr_ kr_ (fun w hw=>x_fa kdsf5_fo111_1 rfl) rfl ?_;refine LAD.take0 (i:=7) rfl kr_ kr_ kr_ kr_ (fun w hw=>x_ldn (vs:=x.2.map B8) kdsf5_ag92 rfl (by rw [List.length_map,hx2]) (hw.keepRowR (fun e=>by have e:(_:Nat)=_:=e.elim id id;(try dsimp only at e);omega) (by rw [List.length_map,hx2]) (bx5.rowD 1 (k:=64) (by simp [waV,hx2])))) rfl ?_;refine LAD.take0 (i:=8) rfl kr_ kr_ kr_ kr_ (fun w hw=>x_ia (j:=x.1) Tryz.underlying87 kdsf5_sz92 rfl rfl om_ om_) rfl ?_;refine LAD.step (rs:=[9]) hR0 (fun _=>hB0) kr_ (by simp) ⟨⟨_,rfl,?_⟩,trivial⟩;refine L.setPart (k:=64) kdsf5_ag92 rfl rfl (hp.carry hD) (by rw [plV_len hsec,hapl];omega) (by rw [List.length_map,hx2]) (B8_one _) (fun wl38 hpN hw hzl38=>?_);rw [plV_set hsec om_,← hst] at hpN;have hR0:=hR0.into hw (.inr rfl);refine L.nil (thn_n (LAD.done kr_ kr_ hR0 ?_));have hb:=hb.carryR hR0 (fun e=>hbpne (e.elim id id).symm);have bx5:=trivial;have hc:=Own.carryR hc hR0 (fun i hi e=>(hqc i hi).2 (e.elim id id));have hB:=trivial;have hk:=hk.box (hp.carry hD) kr_ h3 (hR0.mono (fun _ _ e=>e.elim id id));have hp2:=hpN;have hall:Gr (fun i=>i=bp∨i=bp) wl28 wl38:=((Gr.refl _ _).carry hD).trans hR0;have hG2:Dg dkTy n0 w wl38:=(hG.trans (Dg.of_bel hB28)).trans (hall.mono fun k _ e=>by rw [e.elim id id];exact DkB.box hp kr_ h3);refine blk_n (thn_n (W.region (L.val (x_add rfl rfl (wr64 om_)) rfl ?_)));refine L.val (x_mv (v:=.int _ _) rfl) rfl ?_;refine L.nil (thn_n ⟨rfl,?_⟩);refine ⟨_,?_,j+1,rfl,by first | rfl | exact vi om_ | exact vs (by first | assumption | (rw [hst];done) | (rw [hst];simp only [List.append_assoc])),by first | rfl | exact vi om_ | exact vs (by first | assumption | (rw [hst];done) | (rw [hst];simp only [List.append_assoc])),by first | rfl | exact vi om_ | exact vs (by first | assumption | (rw [hst];done) | (rw [hst];simp only [List.append_assoc])),by first | rfl | exact vi om_ | exact vs (by first | assumption | (rw [hst];done) | (rw [hst];simp only [List.append_assoc])),ao_,(by exact hG2),ao_,(by exact hp2),ao_,ao_⟩;omega
     ·have h25:=dlt_f g25;have hjn:j=D.ca.length:=by omega
      subst hjn;rw [List.take_length] at hp;have hb25:=hb;refine W.exit (thn_x (thn_x (blk_hit ?_)));refine thn_n (W.seq (W.region (L.val (x_mv (v:=.pointer _) rfl) rfl ?_)));refine L.val (x_nil rfl) rfl ?_;refine L.val (x_fa kdsf5_fo90_1 rfl) rfl ?_;refine L.set (v:=.slice _ _ _) kdsf5_sz88 rfl rfl rfl hb rfl (fun wl44 hb hw hzl44=>?_);have hp:=hp.carryR hw (by first | exact fun e=>hbpne e | omega);refine L.nil (thn_n (W.seq (W.region (L.val (x_as (v:=.int _ _) rfl) rfl ?_))));refine L.nil (thn_n (W.ret (fin_mk (.inr rfl) ?_)));have e:flF D K={ flD D with armed:=D.armed - 1 }:=by unfold flF;rw [if_neg ha1]
      rw [e,if_neg ha1];unfold Kn;rw [if_neg ha1];refine ⟨rfl,⟨h1,⟨?_,?_,apD_sec h2.sec hca,fun x hx=>(by cases hx),?_⟩,bp,.slice none 0 0,.slice pk K.keep.length ck,h3,?_,hk.box hb25 kr_ h1 hw,hp,own_nil⟩,hG.trans (hw.mono fun k _ e=>?_)⟩
      · show 0<(apD D.pl D.ca).length;rw [apD_len];exact h2.pos
      · show (apD D.pl D.ca).length≤_;rw [apD_len];exact h2.small
      · show 0≤100000∧D.ops+1≤_;omega
      · have e1:({ flD D with armed:=D.armed - 1 }:Dk).pl.length=D.pl.length:=apD_len _ _;rw [e1];exact hb
      · have e:k=b:=e;rw [e];exact DkB.box hb25 kr_ h1
theorem boot_f (n0 b:Nat) (D:Dk) (K:Fl) (w:World) (h:DiskF n0 w b D K):Ret Tryz.prog 38 #[.pointer (some ⟨b,0,none⟩)] w fun v w'=>v=.int .i64 0∧DiskF n0 w' b { D with dead:=false } K∧Dg dkTy n0 w w':=by
  obtain ⟨h1,h2,bp,vc,vk,h3,hb,hk,hp,hc⟩:=id h;have hk:AllBl n0 w vk K.keep:=hk;have hbpne:bp≠b:=box_ne hp hb (by decide);have hb0:=hb;refine ret_of_W Tryz.func38 rfl (Nat.le_of_ble_eq_true rfl) (res1 rfl) ?_;refine W.seq (W.region (L.val (x_as (v:=.int _ _) rfl) rfl ?_));refine L.nil (thn_n (W.seq (W.seq (W.region (L.val (x_mv (v:=.pointer _) rfl) rfl ?_)))));refine L.ret (x_call kdsf5_en57 rfl) rfl (none_d n0 b D _ h.at) ?_;rintro _ w4 ⟨rfl,hq⟩;rw [hq];refine L.nil (thn_n (W.cond (b:=_) rfl (fun g4=>?_) (fun g4=>?_)))
  ·have h4:=g4;cases g4
  ·have h4:=g4;refine W.skip (thn_n (W.seq (W.region (L.val (x_mv (v:=.pointer _) rfl) rfl ?_))));refine L.val (x_nil rfl) rfl ?_;refine L.val (x_fa kdsf5_fo90_5 rfl) rfl ?_;refine L.set (v:=.bool _) kdsf5_sz4 rfl rfl rfl hb rfl (fun wl8 hb hw hzl8=>?_);refine L.nil (thn_n (W.seq (W.region (L.val (x_as (v:=.int _ _) rfl) rfl ?_))));refine L.nil (thn_n (W.ret (fin_mk (.inr rfl) ?_)));refine ⟨rfl,⟨h1,⟨h2.pos,h2.small,h2.sec,h2.cac,h2.few⟩,bp,vc,vk,h3,hb,hk.box hb0 kr_ h1 hw,hp.carryR hw (fun e=>hbpne e),Own.carryR hc hw (fun j hj e=>by have e:j=b:=e;exact own_box_ne hc hb0 (by decide) (e ▸ hj))⟩,hw.mono (fun k _ e=>?_)⟩;have e:k=b:=e;rw [e];exact DkB.box hb0 kr_ h1
end Go.Gx
namespace Go.Gx
open Go.Proofs
theorem BlsAt.carryR {A R:Nat→Prop} {w w':World} {v:Value} {l:List Bool} (h:BlsAt A w v l) (g:Gr R w w') (hR:∀ k,R k→A k):BlsAt A w' v l:=h.move fun a v hA hv=>⟨g.cell hv (fun r=>hA (hR _ r)),hA⟩
theorem BlsAt.carry {A:Nat→Prop} {w w':World} {v:Value} {l:List Bool} (h:BlsAt A w v l) (g:Bel w w'):BlsAt A w' v l:=h.carryR g (fun _ f=>f.elim)
end Go.Gx
namespace Go.Gx
open Go.Proofs
structure RepC (D:Dk) (q:Pt) (all:List Str):Prop where
  ok:QOk D q
  big:tooBig all=false
  tail:q.tail=(all.map frm).flatten.length
  cnt:q.cnt=all.length
  area:allA D q=(all.map frm).flatten
  z:q.ep=0→q=pt0∧rdD D 0=zeros 64∧rdOk (rdD D 1) (roomN D.pl.length)=false
  hd:0<q.ep→rdD D (q.ep % 2)=hdrS q
  ot:0<q.ep→rdOk (rdD D ((q.ep+1) % 2)) (roomN D.pl.length)=true→(rdPt (rdD D ((q.ep+1) % 2))).ep<q.ep
  zp:ZP (roomN D.pl.length) (rdD D ((q.ep+1) % 2))
theorem hdP_repC {D:Dk} {q:Pt} {all:List Str} (h:RepC D q all) (hok:DkOk D):0<q.ep→hdP D 2=(q,true):=fun h0=>by
  have hp:=h.ok.pt hok;have e1:rdOk (hdrS q) (roomN D.pl.length)=true:=rdOk_hdr hp h.ok.half h.ok.tail;have e2:=rd_hdr hp (show q.half<256 by have:=h.ok.half;omega);have hd:=h.hd h0;have ot:=h.ot h0;show stepP _ (rdD D 1) (stepP _ (rdD D 0) (pt0,false))=_;rcases Nat.mod_two_eq_zero_or_one q.ep with h1 | h1
  · rw [h1] at hd;rw [show (q.ep+1) % 2=1 by omega] at ot;have s0:stepP (roomN D.pl.length) (rdD D 0) (pt0,false)=(q,true):=by unfold stepP;rw [hd,e1,e2];rfl
    rw [s0];unfold stepP;cases h2:rdOk (rdD D 1) (roomN D.pl.length) with
    | false=>rfl
    | true=>
      have:=ot h2;rw [decide_eq_false (show ¬ q.ep<(rdPt (rdD D 1)).ep by omega)];rfl
  · rw [h1] at hd;rw [show (q.ep+1) % 2=0 by omega] at ot;have s1:∀ x:Pt × Bool,(x.2=true→x.1.ep<q.ep)→stepP (roomN D.pl.length) (rdD D 1) x=(q,true):=fun x hx=>by
      unfold stepP;rw [hd,e1,e2];cases h3:x.2 with
      | false=>rfl
      | true=>rw [decide_eq_true (hx h3)];rfl
    refine s1 _ fun hx=>?_
    unfold stepP at hx ⊢;cases h2:rdOk (rdD D 0) (roomN D.pl.length) with
    | false=>rw [h2] at hx;cases hx
    | true=>exact ot h2
theorem open_repC {D:Dk} {q:Pt} {all:List Str} (h:RepC D q all) (hok:DkOk D):openA D=(0,q,all):=by
  have hs:=scan_frms h.big;have key:(hdP D 2).1=q∧((hdP D 2).2 || frS D 2)=true:=by
    rcases Nat.eq_zero_or_pos q.ep with h0 | h0
    · obtain ⟨e1,e2,e3⟩:=h.z h0;have hh:hdP D 2=(pt0,false):=by
        show stepP _ (rdD D 1) (stepP _ (rdD D 0) (pt0,false))=_;rw [e2];unfold stepP;rw [rdOk_zeros,e3];rfl
      rw [hh,e1];refine ⟨rfl,?_⟩;unfold frS;rw [e2,beq_self_eq_true];rfl
    · rw [hdP_repC h hok h0];exact ⟨rfl,rfl⟩
  unfold openA;rw [if_pos key.2,key.1,h.area,hs,if_pos ⟨h.tail.symm,h.cnt.symm⟩]
theorem ZP_zeros (room:Nat):ZP room (zeros 64):=ZP_torn room pt0 (m:=0) om_
theorem ZP_hdr (room:Nat) (p:Pt):ZP room (hdrS p):=by
  have:=ZP_torn room p (m:=64) om_
  rwa [List.take_of_length_le (by rw [hdrS_len];omega),Nat.sub_self,show zeros 0=[] from rfl,List.append_nil] at this
theorem repC_new {m:Nat} (h:6≤m):RepC (newD m) pt0 []:=by
  have r:=rep_new h;obtain ⟨e1,e2,e3⟩:=r.z rfl;exact ⟨r.ok,rfl,rfl,rfl,rfl,fun _=>⟨rfl,e2,by rw [e3];exact rdOk_zeros _⟩,fun e=>absurd e (by decide),fun e=>absurd e (by decide),by
    show ZP _ (rdD (newD m) 1);rw [e3];exact ZP_zeros _⟩
structure Nx (D:Dk) (q p:Pt) (at':Nat) (s:Str) (all':List Str):Prop where
  ep:p.ep=q.ep+1
  half:p.half≤1
  room:at'+s.length≤roomN D.pl.length
  tail:p.tail=at'+s.length
  way:p.half=q.half∧at'=q.tail∨p.half≠q.half∧at'=0
  big:tooBig all'=false
  area:(areaS D p ((at'+63) / 64)).take at'++s=(all'.map frm).flatten
  cnt:p.cnt=all'.length
def chk (D:Dk) (p:Pt) (at':Nat) (s:Str):List (Nat × Str):=(List.range (nck D p at' s)).map fun k=>(stN D.pl.length p.half+at' / 64+k,ckS (allS D p at' s) k)
theorem chk_mem {D:Dk} {p:Pt} {at':Nat} {s:Str} {x:Nat × Str} (h:x∈chk D p at' s):∃ k,k<nck D p at' s∧x=(stN D.pl.length p.half+at' / 64+k,ckS (allS D p at' s) k):=by
  obtain ⟨k,hk,rfl⟩:=List.mem_map.1 h;exact ⟨k,by simpa using hk,rfl⟩
theorem nck_le {D:Dk} {q p:Pt} {at':Nat} {s:Str} {all':List Str} (hok:DkOk D) (h6:6≤D.pl.length) (nx:Nx D q p at' s all'):at' / 64+nck D p at' s≤hlf D.pl.length∧nck D p at' s≤2200:=by
  have hal:=allS_len hok (s:=s) h6 nx.half (at':=at') (by have:=nx.room;omega);have hr:=nx.room;unfold roomN at hr;have hs:=hok.small;have:hlf D.pl.length≤2047:=by unfold hlf;omega
  unfold nck;split
  · omega
  · rw [hal];omega
theorem chk_nodup {D:Dk} {p:Pt} {at':Nat} {s:Str} (sl:Nat) (hsl:sl<2):((chk D p at' s++[(sl,zeros 64)]).map (·.1)).Nodup:=by
  have h2:2≤stN D.pl.length p.half:=by unfold stN;omega
  rw [List.map_append,List.nodup_append];refine ⟨?_,by simp,?_⟩
  · unfold chk;rw [List.map_map];unfold List.Nodup;rw [List.pairwise_map];exact List.Pairwise.imp (fun h e=>h (by dsimp only [Function.comp] at e;omega)) List.nodup_range
  · intro a ha b hb e;obtain ⟨x,hx,rfl⟩:=List.mem_map.1 ha;obtain ⟨k,-,rfl⟩:=chk_mem hx;simp only [List.map_cons,List.map_nil,List.mem_singleton] at hb;dsimp only at e;omega
theorem left_bytes {D:Dk} {q p:Pt} {all all':List Str} {at':Nat} {s:Str} (h:RepC D q all) (hok:DkOk D) (nx:Nx D q p at' s all') {j k:Nat} (hj:j<q.tail) (hk:k<nck D p at' s) (he:stN D.pl.length q.half+j / 64=stN D.pl.length p.half+at' / 64+k) (n:Nat):
    ((ckS (allS D p at' s) k).take n++(rdD D (stN D.pl.length q.half+j / 64)).drop n)[j % 64]? = (rdD D (stN D.pl.length q.half+j / 64))[j % 64]? := by
  have h6:=h.ok.h6;have hnk:=nck_le hok h6 nx;have hqt:=h.ok.tail;have hqh:=h.ok.half;have hph:=nx.half;have hst:=stN_le h6 hqh;have hrN:roomN D.pl.length=hlf D.pl.length * 64:=rfl;rcases nx.way with ⟨e1,e2⟩ | ⟨e1,e2⟩
  · rw [e1] at he;have hk0:k=0:=by omega
    subst hk0;have hja:j / 64=at' / 64:=by omega
    have hm:at' % 64≠0:=by omega
    have hal:=allS_len hok (s:=s) h6 hph (at':=at') (by have:=nx.room;omega);have hl:=rdD_len hok (i:=stN D.pl.length q.half+j / 64) om_;have e0:(ckS (allS D p at' s) 0)[j % 64]? = (rdD D (stN D.pl.length q.half+j / 64))[j % 64]? := by
      rw [ckS_get om_ om_,Nat.mul_zero,Nat.zero_add];unfold allS;rw [if_neg hm,e1,← hja,List.getElem?_append_left (by rw [List.length_take,hl];omega),List.getElem?_take,if_pos om_]
    by_cases hn:j % 64<n
    · rw [List.getElem?_append_left (by rw [List.length_take,ckS_len];omega),List.getElem?_take,if_pos hn,e0]
    · rw [List.getElem?_append_right (by rw [List.length_take,ckS_len];omega),List.length_take,ckS_len,List.getElem?_drop];congr 1;omega
  · exfalso;subst e2;unfold stN at he;have hph2:p.half=0∨p.half=1:=by omega
    have hqh2:q.half=0∨q.half=1:=by omega
    rcases hph2 with a | a <;> rcases hqh2 with b | b <;> rw [a,b] at he e1 <;> omega
theorem repC_stay {D E:Dk} {q:Pt} {all:List Str} (h:RepC D q all) (hok:DkOk D) (hokE:DkOk E) (hq:QOk E q) (hl:E.pl.length=D.pl.length)
    (hb:∀ j,j<q.tail→(rdD E (stN D.pl.length q.half+j / 64))[j % 64]? = (rdD D (stN D.pl.length q.half+j / 64))[j % 64]?)
    (h0:rdD E (q.ep % 2)=rdD D (q.ep % 2)) (h1:rdOk (rdD E ((q.ep+1) % 2)) (roomN D.pl.length)=true→rdOk (rdD D ((q.ep+1) % 2)) (roomN D.pl.length)=true∧rdPt (rdD E ((q.ep+1) % 2))=rdPt (rdD D ((q.ep+1) % 2)))
    (h2:ZP (roomN D.pl.length) (rdD E ((q.ep+1) % 2))):RepC E q all:=by
  have hst:=stN_le h.ok.h6 h.ok.half;have hrN:roomN D.pl.length=hlf D.pl.length * 64:=rfl;have hqt:=h.ok.tail;refine ⟨hq,h.big,h.tail,h.cnt,?_,fun e=>?_,fun e=>by rw [h0];exact h.hd e,fun e hk=>?_,by rw [hl];exact h2⟩
  · rw [← h.area];unfold allA;apply List.ext_getElem?;intro j;rw [List.getElem?_take,List.getElem?_take];split
    · rename_i hj
      rw [areaS_get hokE q j ((q.tail+63) / 64) (fun i hi=>by rw [hl];omega) om_,areaS_get hok q j ((q.tail+63) / 64) (fun i hi=>by omega) om_,hl];exact hb j hj
    · rfl
  · obtain ⟨a,b,c⟩:=h.z e;rw [e] at h0 h1;refine ⟨a,by have:=h0;rw [show (0:Nat) % 2=0 from rfl] at this;rw [this,b],?_⟩;rw [hl];cases hk:rdOk (rdD E 1) (roomN D.pl.length) with
    | false=>rfl
    | true=>have:=(h1 hk).1;rw [show (0+1) % 2=1 from rfl,c] at this;cases this
  · rw [hl] at hk;obtain ⟨a,b⟩:=h1 hk;rw [b];exact h.ot e a
theorem repC_done {D E:Dk} {q p:Pt} {all all':List Str} {at':Nat} {s:Str} (h:RepC D q all) (hok:DkOk D) (hokE:DkOk E) (hq:QOk E p) (nx:Nx D q p at' s all') (hokC:DkOk (comD D p at' s)) (hl:E.pl.length=D.pl.length) (hE:∀ i,rdD E i=rdD (comD D p at' s) i):RepC E p all':=by
  have h6:=h.ok.h6;have hca:=h.ok.ca;have hst:=stN_le h6 nx.half;have hnk:=nck_le hok h6 nx;have h2:2≤stN D.pl.length p.half:=by unfold stN;omega
  have hrd:=comD_rd (p:=p) (at':=at') (s:=s) hca h6 om_;have hep:=nx.ep;have hlen:p.tail=(all'.map frm).flatten.length:=by
    rw [← nx.area,List.length_append,List.length_take,areaS_len hok _ (fun i hi=>by have:=nx.room;have e:roomN D.pl.length=hlf D.pl.length * 64:=rfl;omega),nx.tail];omega
  have hos:rdD E ((p.ep+1) % 2)=rdD D (q.ep % 2):=by
    rw [hE,hrd,if_neg om_,if_neg om_,show (p.ep+1) % 2=q.ep % 2 by omega]
  refine ⟨hq,nx.big,hlen,nx.cnt,?_,fun e=>by omega,fun _=>by rw [hE,hrd,if_pos rfl],fun _ hk=>?_,?_⟩
  · rw [← nx.area,← com_area hok hokC hca h6 nx.half nx.room nx.tail];have:∀ k,areaS E p k=areaS (comD D p at' s) p k:=fun k=>by
      unfold areaS;rw [hl,comD_len];congr 2;funext i;exact hE _
    unfold allA;rw [this]
  · rw [hos,hl] at hk;rw [hos];rcases Nat.eq_zero_or_pos q.ep with h0 | h0
    · obtain ⟨e1,e2,e3⟩:=h.z h0;rw [h0,show (0:Nat) % 2=0 from rfl,e2,rdOk_zeros] at hk;cases hk
    · rw [h.hd h0,rd_hdr (h.ok.pt hok) (by have:=h.ok.half;omega)];omega
  · rw [hos];rcases Nat.eq_zero_or_pos q.ep with h0 | h0
    · obtain ⟨e1,e2,e3⟩:=h.z h0;rw [h0,show (0:Nat) % 2=0 from rfl,e2];exact ZP_zeros _
    · rw [h.hd h0];exact ZP_hdr _ _
end Go.Gx
namespace Go.Gx
open Go.Proofs
def una (D:Dk):Dk:={ D with armed:=0 }
def bt (D:Dk):Dk:={ D with dead:=false }
theorem DkOk.una {D:Dk} (h:DkOk D):DkOk (una D):=⟨h.pos,h.small,h.sec,h.cac,h.few⟩
theorem DkOk.bt {D:Dk} (h:DkOk D):DkOk (bt D):=⟨h.pos,h.small,h.sec,h.cac,h.few⟩
theorem comD_dk {D:Dk} {q p:Pt} {at':Nat} {s:Str} {all':List Str} (hok:DkOk D) (hca:D.ca=[]) (h6:6≤D.pl.length) (nx:Nx D q p at' s all') (hops:D.ops≤900000000):DkOk (comD D p at' s):=by
  have ho:=comD_ops hok h6 nx.half nx.room;have hr:=roomN_le hok.small;have hrm:=nx.room;refine ⟨by rw [comD_len];exact hok.pos,by rw [comD_len];exact hok.small,?_,fun x hx=>(by cases hx),?_⟩
  · have h1:∀ x∈(wrD (wrs D p at' s) (p.ep % 2) (zeros 64)).ca,x.2.length=64:=fun x hx=>by
      simp only [wrD,wrs,wrC,hca,List.nil_append,List.mem_append,List.mem_singleton] at hx;rcases hx with hx | rfl
      · obtain ⟨k,-,rfl⟩:=List.mem_map.1 hx;exact ckS_len _ _
      · exact zeros_len _
    have h2:∀ x∈(wrD (flD (wrD (wrs D p at' s) (p.ep % 2) (zeros 64))) (p.ep % 2) (hdrS p)).ca,x.2.length=64:=fun x hx=>by
      simp only [wrD,flD,List.nil_append,List.mem_singleton] at hx;subst hx;exact hdrS_len _
    exact apD_sec (apD_sec hok.sec h1) h2
  · have:s.length / 64≤1000000:=by omega
    refine ⟨?_,by omega⟩;show 0≤100000;omega
theorem crash_com {D:Dk} {K:Fl} {q p:Pt} {all all':List Str} {at':Nat} {s:Str} (hd:D.dead=false) (h:RepC (una D) q all) (hok:DkOk D) (nx:Nx (una D) q p at' s all')
    {R:Dk} (hR:comF D K (chk (una D) p at' s) (p.ep % 2) (hdrS p)=R) (hokR:DkOk R) (hep:p.ep<1000000000) (hcn:p.cnt<2000000000) (hops:D.ops+2300<900000000):
    R.pl.length=D.pl.length∧R.ca=[]∧D.ops≤R.ops∧R.ops≤D.ops+2300∧(R.dead=false→RepC (una R) p all')∧(R.dead=true→R.armed=0∧(RepC (bt R) q all∨RepC (bt R) p all')):=by
  have hca:D.ca=[]:=h.ok.ca;have h6:6≤D.pl.length:=h.ok.h6;have hnk:at' / 64+nck (una D) p at' s≤hlf D.pl.length∧nck (una D) p at' s≤2200:=nck_le hok.una h6 nx;have hst:=stN_le h6 nx.half;have hstq:=stN_le h6 h.ok.half;have hrN:roomN D.pl.length=hlf D.pl.length * 64:=rfl;have h2:2≤stN D.pl.length p.half:=by unfold stN;omega
  have h2q:2≤stN D.pl.length q.half:=by unfold stN;omega
  have eU:(una D).pl=D.pl:=rfl;have hC:DkOk (comD (una D) p at' s):=comD_dk hok.una hca h6 nx (by show D.ops≤_;omega);have hpe:=nx.ep;have hqt:q.tail≤roomN D.pl.length:=h.ok.tail;have htl:p.tail≤roomN D.pl.length:=by rw [nx.tail];exact nx.room
  have hws:(chk (una D) p at' s).length=nck (una D) p at' s:=by unfold chk;rw [List.length_map,List.length_range]
  obtain ⟨r1,r2,r3,r4⟩:=comF_case (D:=D) K (chk (una D) p at' s) (p.ep % 2) (hdrS p) hd hca;rw [hR] at r1 r2 r3 r4;rw [hws] at r3;have hcm:∀ x∈chk (una D) p at' s++[(p.ep % 2,zeros 64)],x.1<D.pl.length:=fun x hx=>by
    rcases List.mem_append.1 hx with hx | hx
    · obtain ⟨k,hk,rfl⟩:=chk_mem hx;show stN D.pl.length p.half+at' / 64+k<_;omega
    · rw [List.mem_singleton.1 hx];show p.ep % 2<_;omega
  have ePC:(comD (una D) p at' s).pl=apD (apD D.pl (chk (una D) p at' s++[(p.ep % 2,zeros 64)])) [(p.ep % 2,hdrS p)]:=by
    have e1:(comD (una D) p at' s).pl=apD (apD D.pl (D.ca++chk (una D) p at' s++[(p.ep % 2,zeros 64)])) [(p.ep % 2,hdrS p)]:=rfl;rw [e1,hca,List.nil_append]
  have mkq:∀ (E:Dk) (x:Pt),E.pl.length=D.pl.length→E.armed=0→E.dead=false→E.ca=[]→E.ops≤D.ops+2300→x.half≤1→x.tail≤roomN D.pl.length→x.ep<1000000000→x.cnt<2000000000→QOk E x:=fun E x a1 a2 a3 a4 a5 a6 a7 a8 a9=>
    ⟨by rw [a1];exact h6,a2,a3,a4,by omega,a6,by rw [a1];exact a7,a8,a9⟩
  have p1:∀ i,(apD D.pl (chk (una D) p at' s++[(p.ep % 2,zeros 64)])).getD i []=if i=p.ep % 2 then zeros 64 else if stN D.pl.length p.half+at' / 64≤i∧i<stN D.pl.length p.half+at' / 64+nck (una D) p at' s then ckS (allS (una D) p at' s) (i - (stN D.pl.length p.half+at' / 64)) else D.pl.getD i []:=fun i=>by
    have e:apD D.pl (chk (una D) p at' s++[(p.ep % 2,zeros 64)])=(apD D.pl (chk (una D) p at' s)).set (p.ep % 2) (zeros 64):=by rw [apD_app];rfl
    rw [e,getD_set0 (by rw [apD_len];omega)];unfold chk;rw [apC_get D.pl _ (ckS (allS (una D) p at' s)) i _ (by rw [eU];omega)];rfl
  have done:∀ E:Dk,DkOk E→E.pl.length=D.pl.length→E.armed=0→E.dead=false→E.ca=[]→E.ops≤D.ops+2300→(∀ i,E.pl.getD i []=(comD (una D) p at' s).pl.getD i [])→RepC E p all':=fun E a0 a1 a2 a3 a4 a5 a6=>
    repC_done h hok.una a0 (mkq E p a1 a2 a3 a4 a5 nx.half htl hep hcn) nx hC a1 fun i=>by rw [rdD_pl a4,rdD_pl (show (comD (una D) p at' s).ca=[] from rfl),a6]
  rcases r4 with ⟨d1,d2,d3⟩ | ⟨d1,d2⟩
  · have hlen:R.pl.length=D.pl.length:=by
      rcases d3 with ⟨m,d3⟩ | d3
      · rw [d3,dropL_len]
      · rw [d3,dropL_len,apD_len]
    refine ⟨hlen,r1,r2,by omega,fun e=>(by rw [d1] at e;cases e),fun _=>⟨d2,?_⟩⟩;have hqB:QOk (bt R) q:=mkq (bt R) q hlen d2 rfl r1 (by show R.ops≤_;omega) h.ok.half hqt h.ok.ep h.ok.cnt;have erd:∀ i,rdD (bt R) i=R.pl.getD i []:=fun i=>rdD_pl (D:=bt R) r1 i
    have erD:∀ i,rdD (una D) i=D.pl.getD i []:=fun i=>rdD_pl (D:=una D) hca i
    have hz:=h.zp;rcases d3 with ⟨m,d3⟩ | d3
    · left;have hg:=dropL_get K ((chk (una D) p at' s++[(p.ep % 2,zeros 64)]).take m) 0 D.pl (by
          rw [List.map_take];exact (chk_nodup (p.ep % 2) om_).sublist (List.take_sublist _ _)) (fun x hx=>hcm x (List.mem_of_mem_take hx))
      rw [← d3] at hg;have hmem:∀ {i:Nat} {t:Str},(i,t)∈(chk (una D) p at' s++[(p.ep % 2,zeros 64)]).take m→i=p.ep % 2∧t=zeros 64∨∃ k,k<nck (una D) p at' s∧i=stN D.pl.length p.half+at' / 64+k∧t=ckS (allS (una D) p at' s) k:=fun {i t} hx=>by
        rcases List.mem_append.1 (List.mem_of_mem_take hx) with hx | hx
        · obtain ⟨k,hk,e⟩:=chk_mem hx;simp only [Prod.mk.injEq] at e;exact .inr ⟨k,hk,e.1,e.2⟩
        · simp only [List.mem_singleton,Prod.mk.injEq] at hx;exact .inl hx
      have hsl:∃ n,n≤64∧R.pl.getD ((q.ep+1) % 2) []=zeros n++(D.pl.getD ((q.ep+1) % 2) []).drop n:=by
        rcases hg ((q.ep+1) % 2) with ⟨g1,-⟩ | ⟨t,n,g1,g2,g3⟩
        · exact ⟨0,by omega,by rw [g1];rfl⟩
        · rcases hmem g1 with ⟨e1,e2⟩ | ⟨k,hk,e1,e2⟩
          · refine ⟨n,g2,?_⟩;rw [g3,e2];congr 1;unfold zeros;rw [List.take_replicate,Nat.min_eq_left g2]
          · omega
      have hDl:(D.pl.getD ((q.ep+1) % 2) []).length=64:=by rw [← erD];exact rdD_len hok.una (by show _<D.pl.length;omega)
      rw [erD] at hz;refine repC_stay h hok.una hokR.bt hqB hlen (fun j hj=>?_) ?_ ?_ ?_
      · rw [erd,erD];show (R.pl.getD (stN D.pl.length q.half+j / 64) [])[j % 64]? = (D.pl.getD (stN D.pl.length q.half+j / 64) [])[j % 64]?;rcases hg (stN D.pl.length q.half+j / 64) with ⟨g1,-⟩ | ⟨t,n,g1,g2,g3⟩
        · rw [g1]
        · rcases hmem g1 with ⟨e1,e2⟩ | ⟨k,hk,e1,e2⟩
          · omega
          · have:=left_bytes h hok.una nx hj hk e1 n;rw [erD] at this;rw [g3,e2];exact this
      · rw [erd,erD];rcases hg (q.ep % 2) with ⟨g1,-⟩ | ⟨t,n,g1,g2,g3⟩
        · exact g1
        · rcases hmem g1 with ⟨e1,e2⟩ | ⟨k,hk,e1,e2⟩ <;> omega
      · obtain ⟨n,hn,e⟩:=hsl;rw [erd,erD,e];intro hk;have:=rd_34 (room:=roomN (una D).pl.length) (hz n hn hk);exact ⟨by rw [← this.1];exact hk,this.2⟩
      · obtain ⟨n,hn,e⟩:=hsl;rw [erd,e];exact ZP_zero hDl hz hn
    · have hgB:∀ i,R.pl.getD i []=if i=p.ep % 2 then (hdrS p).take (ndrop K 0)++zeros (64 - ndrop K 0) else (apD D.pl (chk (una D) p at' s++[(p.ep % 2,zeros 64)])).getD i []:=fun i=>by
        have e:dropL K 0 [(p.ep % 2,hdrS p)] (apD D.pl (chk (una D) p at' s++[(p.ep % 2,zeros 64)]))=(apD D.pl (chk (una D) p at' s++[(p.ep % 2,zeros 64)])).set (p.ep % 2) ((hdrS p).take (ndrop K 0)++((apD D.pl (chk (una D) p at' s++[(p.ep % 2,zeros 64)])).getD (p.ep % 2) []).drop (ndrop K 0)):=rfl;rw [d3,e,getD_set0 (by rw [apD_len];omega),p1 (p.ep % 2),if_pos rfl];have e2:(zeros 64).drop (ndrop K 0)=zeros (64 - ndrop K 0):=by unfold zeros;rw [List.drop_replicate]
        rw [e2]
      cases hk:rdOk ((hdrS p).take (ndrop K 0)++zeros (64 - ndrop K 0)) (roomN D.pl.length) with
      | true=>
        right;have hw:=torn_whole (ndrop_le K 0) hk;refine done (bt R) hokR.bt hlen d2 rfl r1 (by show R.ops≤_;omega) fun i=>?_
        show R.pl.getD i []=_;rw [hgB,hw,ePC];have e:apD (apD D.pl (chk (una D) p at' s++[(p.ep % 2,zeros 64)])) [(p.ep % 2,hdrS p)]=(apD D.pl (chk (una D) p at' s++[(p.ep % 2,zeros 64)])).set (p.ep % 2) (hdrS p):=rfl;rw [e,getD_set0 (by rw [apD_len];omega)]
      | false=>
        left;have hso:R.pl.getD ((q.ep+1) % 2) []=(hdrS p).take (ndrop K 0)++zeros (64 - ndrop K 0):=by rw [hgB,if_pos om_]
        refine repC_stay h hok.una hokR.bt hqB hlen (fun j hj=>?_) ?_ ?_ ?_
        · rw [erd,erD];show (R.pl.getD (stN D.pl.length q.half+j / 64) [])[j % 64]? = (D.pl.getD (stN D.pl.length q.half+j / 64) [])[j % 64]?;rw [hgB,if_neg om_,p1,if_neg om_];by_cases hw:stN D.pl.length p.half+at' / 64≤stN D.pl.length q.half+j / 64∧stN D.pl.length q.half+j / 64<stN D.pl.length p.half+at' / 64+nck (una D) p at' s
          · rw [if_pos hw];obtain ⟨k,hk⟩:∃ k,k=stN D.pl.length q.half+j / 64 - (stN D.pl.length p.half+at' / 64):=⟨_,rfl⟩;have:=left_bytes h hok.una nx (j:=j) (k:=k) hj om_ (by show stN D.pl.length q.half+j / 64=stN D.pl.length p.half+at' / 64+k;omega) 64;rw [erD,List.take_of_length_le (by rw [ckS_len];exact Nat.le_refl _),List.getElem?_append_left (by rw [ckS_len];omega)] at this;rw [← hk];exact this
          · rw [if_neg hw]
        · rw [erd,erD,hgB,if_neg om_,p1,if_neg om_,if_neg om_]
        · rw [erd,hso];intro e;have e:rdOk ((hdrS p).take (ndrop K 0)++zeros (64 - ndrop K 0)) (roomN D.pl.length)=true:=e;rw [hk] at e;cases e
        · rw [erd,hso];exact ZP_torn _ p (ndrop_le K 0)
  · have hlen:R.pl.length=D.pl.length:=by rw [d2,apD_len,apD_len]
    refine ⟨hlen,r1,r2,by omega,fun _=>?_,fun e=>(by rw [d1] at e;cases e)⟩;exact done (una R) hokR.una hlen rfl d1 r1 (by show R.ops≤_;omega) fun i=>by
      show R.pl.getD i []=_;rw [d2,ePC]
end Go.Gx
namespace Go.Gx
open Go.Proofs
theorem kwaf1_en21:Go.Proofs.Enters Tryz.prog 21:=Go.Proofs.enters_of Tryz.func21 kr_ rfl
theorem kwaf1_en23:Go.Proofs.Enters Tryz.prog 23:=Go.Proofs.enters_of Tryz.func23 kr_ rfl
theorem kwaf1_fo134_1:fieldOff Tryz.prog 134 1=some 4:=by kernel_rfl
theorem kwaf1_fo134_2:fieldOff Tryz.prog 134 2=some 5:=by kernel_rfl
theorem kwaf1_oc35:oneCellT Tryz.prog 35=true:=by kernel_rfl
theorem kwaf1_oc4:oneCellT Tryz.prog 4=true:=by kernel_rfl
theorem kwaf1_sz4:(Tryz.prog.info? 4).map (·.size)=some 1:=by kernel_rfl
def LogB (n0:Nat) (w:World) (bl b:Nat) (p:Pt) (br:Bool):Prop:=n0≤bl∧Box w bl 134 (logV p b br)
theorem LogB.dg {n0 n1 bl b:Nat} {w w':World} {p:Pt} {br:Bool} (h:LogB n0 w bl b p br) (g:Dg dkTy n1 w w'):LogB n0 w' bl b p br:=⟨h.1,h.2.dg g rfl⟩
theorem e190 (D:Dk):(!decide ((if D.armed=1 then (190:Int) else 0)=0))=decide (D.armed=1):=by
  by_cases h:D.armed=1
  · rw [if_pos h,decide_eq_true h];rfl
  · rw [if_neg h,decide_eq_false h];rfl
theorem Dg.logB {n0 bl b:Nat} {w w':World} {p:Pt} {br:Bool} (hl:LogB n0 w bl b p br) (g:Gr (fun k=>k=bl) w w'):Dg lgTy n0 w w':=
  Gr.mono g (fun k _ e=>by have e:k=bl:=e;rw [e];exact DkB.box hl.2 kr_ hl.1)
theorem write_lf (n0 bl b:Nat) (D:Dk) (K:Fl) (p:Pt) (i:Nat) (s:Str) (w:World) (h:DiskF n0 w b D K) (hl:LogB n0 w bl b p false) (ha:D.armed≤9223372036854775807) (hd:D.dead=false) (hi:i<D.pl.length) (hs:s.length=64) (hn:n0≤w.heap.size) (hf:D.ca.length<100000∧D.ops<1000000000):
    Ret Tryz.prog 107 #[.pointer (some ⟨bl,0,none⟩),.int .i64 (i:Nat),S s] w fun v w'=>v=.bool (!decide (D.armed=1))∧DiskF n0 w' b (wrF D K i s) (Kn D K)∧LogB n0 w' bl b p (decide (D.armed=1))∧Dg lgTy n0 w w':=by
  have hb:=hl.2;refine ret_of_W Tryz.func107 rfl (Nat.le_of_ble_eq_true rfl) (res1 rfl) ?_;refine W.seq (W.region (L.val (x_as (v:=.bool _) rfl) rfl ?_));refine L.nil (thn_n (W.seq (W.region (L.val (x_mv (v:=.pointer _) rfl) rfl ?_))));refine L.val (x_mv (v:=.pointer _) rfl) rfl ?_;refine L.val (x_nil rfl) rfl ?_;refine L.val (x_fa kwaf1_fo134_2 rfl) rfl ?_;refine L.val (x_ld (v:=.bool _) kwaf1_oc4 rfl (hb.cell0 rfl)) rfl ?_;refine L.val (x_mv (v:=.bool _) rfl) rfl ?_;refine L.splitat (dj:=12) (b:=_) rfl (fun g12=>?_) (fun g12=>?_)
  ·have h12:=g12;cases g12
  ·have h12:=g12;refine L.gyes' (dj:=12) (b:=_) rfl rfl g12 ?_;refine L.val (x_mv (v:=.pointer _) rfl) rfl ?_;refine L.gyes' (dj:=12) (b:=_) rfl rfl g12 ?_;refine L.val (x_nil rfl) rfl ?_;refine L.gyes' (dj:=12) (b:=_) rfl rfl g12 ?_;refine L.val (x_fa kwaf1_fo134_1 rfl) rfl ?_;refine L.gyes' (dj:=12) (b:=_) rfl rfl g12 ?_;refine L.val (x_ld (v:=.pointer _) kwaf1_oc35 rfl (hb.cell0 rfl)) rfl ?_;refine L.gyes' (dj:=12) (b:=_) rfl rfl g12 ?_;refine L.val (x_mv (v:=.int _ _) rfl) rfl ?_;refine L.gyes' (dj:=12) (b:=_) rfl rfl g12 ?_;refine L.val (x_mv (v:=S _) rfl) rfl ?_;refine L.gyes' (dj:=12) (b:=_) rfl rfl g12 ?_;refine L.ret (x_call kwaf1_en21 rfl) rfl (write_f n0 b D K i s _ h ha hd hi hs hn hf) ?_;rintro _ w19 ⟨rfl,hD19,hg19⟩;have hl19:=hl.dg hg19;have hb:=hl19.2;have hDg:=Dg.mono hg19 lg_of_dk;refine L.gyes' (dj:=12) (b:=_) rfl rfl g12 ?_;refine L.val (x_neq rfl rfl) rfl ?_;rw [e190];refine L.val (x_pick_f (v:=.bool _) (congrArg Value.bool g12) rfl) rfl ?_;refine L.val (x_nil rfl) rfl ?_;refine L.val (x_fa kwaf1_fo134_2 rfl) rfl ?_;refine L.set (v:=.bool _) kwaf1_sz4 rfl rfl rfl hb rfl (fun wl19 hb hw hzl19=>?_);have hDl:=hD19.log hl19.2 hl19.1 hw;have hDg:=hDg.trans (Dg.logB hl19 hw);refine L.nil (thn_n (W.seq (W.region (L.val (x_mv (v:=.pointer _) rfl) rfl ?_))));refine L.val (x_nil rfl) rfl ?_;refine L.val (x_fa kwaf1_fo134_2 rfl) rfl ?_;refine L.val (x_ld (v:=.bool _) kwaf1_oc4 rfl (hb.cell0 rfl)) rfl ?_;refine L.val (x_not rfl) rfl ?_;refine L.val (x_as (v:=.bool _) rfl) rfl ?_;refine L.nil (thn_n (W.ret (fin_mk (.inr rfl) ?_)));exact ⟨rfl,hDl,⟨hl.1,hb⟩,hDg⟩
theorem flush_lf (n0 bl b:Nat) (D:Dk) (K:Fl) (p:Pt) (w:World) (h:DiskF n0 w b D K) (hl:LogB n0 w bl b p false) (ha:D.armed≤9223372036854775807) (hd:D.dead=false) (hn:n0≤w.heap.size) (hf:D.ops<1000000000):
    Ret Tryz.prog 108 #[.pointer (some ⟨bl,0,none⟩)] w fun v w'=>v=.bool (!decide (D.armed=1))∧DiskF n0 w' b (flF D K) (Kn D K)∧LogB n0 w' bl b p (decide (D.armed=1))∧Dg lgTy n0 w w':=by
  have hb:=hl.2;refine ret_of_W Tryz.func108 rfl (Nat.le_of_ble_eq_true rfl) (res1 rfl) ?_;refine W.seq (W.region (L.val (x_as (v:=.bool _) rfl) rfl ?_));refine L.nil (thn_n (W.seq (W.region (L.val (x_mv (v:=.pointer _) rfl) rfl ?_))));refine L.val (x_mv (v:=.pointer _) rfl) rfl ?_;refine L.val (x_nil rfl) rfl ?_;refine L.val (x_fa kwaf1_fo134_2 rfl) rfl ?_;refine L.val (x_ld (v:=.bool _) kwaf1_oc4 rfl (hb.cell0 rfl)) rfl ?_;refine L.val (x_mv (v:=.bool _) rfl) rfl ?_;refine L.splitat (dj:=8) (b:=_) rfl (fun g8=>?_) (fun g8=>?_)
  ·have h8:=g8;cases g8
  ·have h8:=g8;refine L.gyes' (dj:=8) (b:=_) rfl rfl g8 ?_;refine L.val (x_mv (v:=.pointer _) rfl) rfl ?_;refine L.gyes' (dj:=8) (b:=_) rfl rfl g8 ?_;refine L.val (x_nil rfl) rfl ?_;refine L.gyes' (dj:=8) (b:=_) rfl rfl g8 ?_;refine L.val (x_fa kwaf1_fo134_1 rfl) rfl ?_;refine L.gyes' (dj:=8) (b:=_) rfl rfl g8 ?_;refine L.val (x_ld (v:=.pointer _) kwaf1_oc35 rfl (hb.cell0 rfl)) rfl ?_;refine L.gyes' (dj:=8) (b:=_) rfl rfl g8 ?_;refine L.ret (x_call kwaf1_en23 rfl) rfl (flush_f n0 b D K _ h ha hd hn hf) ?_;rintro _ w13 ⟨rfl,hD13,hg13⟩;have hl13:=hl.dg hg13;have hb:=hl13.2;have hDg:=Dg.mono hg13 lg_of_dk;refine L.gyes' (dj:=8) (b:=_) rfl rfl g8 ?_;refine L.val (x_neq rfl rfl) rfl ?_;rw [e190];refine L.val (x_pick_f (v:=.bool _) (congrArg Value.bool g8) rfl) rfl ?_;refine L.val (x_nil rfl) rfl ?_;refine L.val (x_fa kwaf1_fo134_2 rfl) rfl ?_;refine L.set (v:=.bool _) kwaf1_sz4 rfl rfl rfl hb rfl (fun wl17 hb hw hzl17=>?_);have hDl:=hD13.log hl13.2 hl13.1 hw;have hDg:=hDg.trans (Dg.logB hl13 hw);refine L.nil (thn_n (W.seq (W.region (L.val (x_mv (v:=.pointer _) rfl) rfl ?_))));refine L.val (x_nil rfl) rfl ?_;refine L.val (x_fa kwaf1_fo134_2 rfl) rfl ?_;refine L.val (x_ld (v:=.bool _) kwaf1_oc4 rfl (hb.cell0 rfl)) rfl ?_;refine L.val (x_not rfl) rfl ?_;refine L.val (x_as (v:=.bool _) rfl) rfl ?_;refine L.nil (thn_n (W.ret (fin_mk (.inr rfl) ?_)));exact ⟨rfl,hDl,⟨hl.1,hb⟩,hDg⟩
end Go.Gx
