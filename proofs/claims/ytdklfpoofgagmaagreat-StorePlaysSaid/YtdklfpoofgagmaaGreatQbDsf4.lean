/- A disk whose power may go: Write and Flush. Conditions: none. -/
import Derived.Test.YtdklfpoofgagmaaGreatQbCrs2
import Derived.Test.YtdklfpoofgagmaaGreatQbMapS
import Derived.Test.YtdklfpoofgagmaaGreatQbRowG
import Derived.Test.YtdklfpoofgagmaaGreatQbDsk4
namespace Go.Gx
open Go.Proofs
theorem kdsf4_ag111:aggT Tryz.prog 111 65=true:=by kernel_rfl
theorem kdsf4_ag50:aggT Tryz.prog 50 3=true:=by kernel_rfl
theorem kdsf4_el111:elT Tryz.prog 111 65=true:=by kernel_rfl
theorem kdsf4_en51:Go.Proofs.Enters Tryz.prog 51:=Go.Proofs.enters_of Tryz.func51 kr_ rfl
theorem kdsf4_en53:Go.Proofs.Enters Tryz.prog 53:=Go.Proofs.enters_of Tryz.func53 kr_ rfl
theorem kdsf4_en54:Go.Proofs.Enters Tryz.prog 54:=Go.Proofs.enters_of Tryz.func54 kr_ rfl
theorem kdsf4_fo111_1:fieldOff Tryz.prog 111 1=some 1:=by kernel_rfl
theorem kdsf4_fo90_1:fieldOff Tryz.prog 90 1=some 1:=by kernel_rfl
theorem kdsf4_fo90_2:fieldOff Tryz.prog 90 2=some 2:=by kernel_rfl
theorem kdsf4_mixed:Tryz.prog.follows .mixedOrders=true:=by kernel_rfl
theorem kdsf4_oc88:oneCellT Tryz.prog 88=true:=by kernel_rfl
theorem kdsf4_sz5:(Tryz.prog.info? 5).map (·.size)=some 1:=by kernel_rfl
theorem kdsf4_sz88:(Tryz.prog.info? 88).map (·.size)=some 1:=by kernel_rfl
theorem kdsf4_zr111:(Tryz.prog.info? 111).bind (·.zero)=some (Value.agg [Value.int .i64 0,Value.int .u8 0,Value.int .u8 0,Value.int .u8 0,Value.int .u8 0,Value.int .u8 0,Value.int .u8 0,Value.int .u8 0,Value.int .u8 0,Value.int .u8 0,Value.int .u8 0,Value.int .u8 0,Value.int .u8 0,Value.int .u8 0,Value.int .u8 0,Value.int .u8 0,Value.int .u8 0,Value.int .u8 0,Value.int .u8 0,Value.int .u8 0,Value.int .u8 0,Value.int .u8 0,Value.int .u8 0,Value.int .u8 0,Value.int .u8 0,Value.int .u8 0,Value.int .u8 0,Value.int .u8 0,Value.int .u8 0,Value.int .u8 0,Value.int .u8 0,Value.int .u8 0,Value.int .u8 0,Value.int .u8 0,Value.int .u8 0,Value.int .u8 0,Value.int .u8 0,Value.int .u8 0,Value.int .u8 0,Value.int .u8 0,Value.int .u8 0,Value.int .u8 0,Value.int .u8 0,Value.int .u8 0,Value.int .u8 0,Value.int .u8 0,Value.int .u8 0,Value.int .u8 0,Value.int .u8 0,Value.int .u8 0,Value.int .u8 0,Value.int .u8 0,Value.int .u8 0,Value.int .u8 0,Value.int .u8 0,Value.int .u8 0,Value.int .u8 0,Value.int .u8 0,Value.int .u8 0,Value.int .u8 0,Value.int .u8 0,Value.int .u8 0,Value.int .u8 0,Value.int .u8 0,Value.int .u8 0].toArray):=by kernel_rfl
def Kn (D:Dk) (K:Fl):Fl:=if D.armed=1 then K0 else K
theorem dropD_ok {D:Dk} {K:Fl} (h:DkOk D):DkOk (dropD D K):=by
  refine ⟨?_,?_,dropL_sec h.sec (fun x hx=>⟨(h.cac x hx).2,(h.cac x hx).1⟩),fun x hx=>(by cases hx),?_⟩
  · show 0<(dropL K 0 D.ca D.pl).length;rw [dropL_len];exact h.pos
  · show (dropL K 0 D.ca D.pl).length≤_;rw [dropL_len];exact h.small
  · show 0≤100000∧D.ops≤_;have:=h.few;omega
theorem diskF_drop {n0 b bp:Nat} {w:World} {D:Dk} {K:Fl} (h1:n0≤b) (h3:n0≤bp) (h2:DkOk D) (hb:Box w b 90 (dkV (.slice (some ⟨bp,0,none⟩) D.pl.length D.pl.length) (.slice none 0 0) (.slice none 0 0) 0 0 (dropD D K))) (hp:Box w bp 92 (plV (dropL K 0 D.ca D.pl))):DiskF n0 w b (dropD D K) K0:=by
  have e:(dropD D K).pl.length=D.pl.length:=dropL_len _ _ _ _;exact ⟨h1,dropD_ok h2,bp,.slice none 0 0,.slice none 0 0,h3,by rw [e];exact hb,⟨none,0,rfl,Nat.le_refl _,by omega,by simp [K0],fun e=>absurd rfl e⟩,hp,own_nil⟩
theorem fall_row {w:World} {b:Nat} {T:TypeId} {vp vc vk:Value} {tn ct:Int} {D:Dk} (h:Box w b T (dkV vp vc vk tn ct D)):∀ j,j<3→w.cell? ⟨b,0+2+j,none⟩=[vk,.int .i64 tn,.int .i64 ct][j]? := fun j hj=>by
  match j,hj with
  | 0,_=>exact h.cell (i:=2) rfl
  | 1,_=>exact h.cell (i:=3) rfl
  | 2,_=>exact h.cell (i:=4) rfl
theorem write_f (n0 b:Nat) (D:Dk) (K:Fl) (i:Nat) (s:Str) (w:World) (h:DiskF n0 w b D K) (ha:D.armed≤9223372036854775807) (hd:D.dead=false) (hi:i<D.pl.length) (hs:s.length=64) (hn:n0≤w.heap.size) (hf:D.ca.length<100000∧D.ops<1000000000):
    Ret Tryz.prog 21 #[.pointer (some ⟨b,0,none⟩),.int .i64 (i:Nat),S s] w fun v w'=>v=.int .i64 (if D.armed=1 then 190 else 0)∧DiskF n0 w' b (wrF D K i s) (Kn D K)∧Dg dkTy n0 w w':=by
  obtain ⟨h1,h2,bp,vc,vk,h3,hb,hk,hp,hc⟩:=id h;have hk:AllBl n0 w vk K.keep:=hk;obtain ⟨pk,ck,rfl,-⟩:=id hk;obtain ⟨ac,cc,rfl,hcc⟩:=own_shape hc;have hr:readyD D (i:Nat)=0:=by unfold readyD;rw [hd,if_neg (by decide),if_pos om_]
  have hbl:=hb.lt;have hwl:(waV (i,s)).length=65:=waV_len (x:=(i,s)) hs;have hqc:∀ j,some j=(Value.slice ac D.ca.length cc).ownBlock→n0≤j∧j<w.heap.size∧j≠b∧j≠bp:=fun j hj=>⟨(Own.lt hc hj).1,(Own.lt hc hj).2,fun e=>own_box_ne hc hb (by decide) (e ▸ hj),fun e=>own_box_ne hc hp (by decide) (e ▸ hj)⟩
  have hbpne:bp≠b:=box_ne hp hb (by decide);have hpl:=hp.lt;have hD1:DkOk { wrD D i s with armed:=D.armed - 1 }:=⟨h2.pos,h2.small,h2.sec,fun x hx=>by
      rcases List.mem_append.1 hx with hx | hx
      · exact h2.cac x hx
      · rw [List.mem_singleton.1 hx];exact ⟨hi,hs⟩,by simp only [wrD,List.length_append,List.length_singleton];omega⟩
  refine ret_of_W Tryz.func21 rfl (Nat.le_of_ble_eq_true rfl) (res1 rfl) ?_;have hB:=Gr.refl (fun _=>False) w;refine W.seq (W.region (L.val (x_as (v:=.int _ _) rfl) rfl ?_));refine L.nil (thn_n (W.seq (W.seq (W.region (L.val (x_mv (v:=.pointer _) rfl) rfl ?_)))));refine L.val (x_mv (v:=.int _ _) rfl) rfl ?_;refine L.ret (x_call kdsf4_en51 rfl) rfl (ready_d n0 b D _ _ h.at) ?_;rintro _ w11 ⟨rfl,hq⟩;rw [hq,hr];refine L.val (x_as (v:=.int _ _) rfl) rfl ?_;refine L.nil (thn_n (W.seq (W.region (L.val (x_mv (v:=.int _ _) rfl) rfl ?_))));refine L.val (x_neq rfl rfl) rfl ?_;refine L.nil (thn_n (W.cond (b:=_) rfl (fun g13=>?_) (fun g13=>?_)))
  ·have h13:=dne_t g13;cases g13
  ·have h13:=dne_f g13;refine W.skip (thn_n (W.seq (W.seq (W.region (L.val (x_mv (v:=S _) rfl) rfl ?_)))));refine L.val (x_len_str Tryz.underlying9 rfl) rfl ?_;refine L.val (x_neq rfl rfl) rfl ?_;refine L.nil (thn_n (W.cond (b:=_) rfl (fun g17=>?_) (fun g17=>?_)))
   ·have h17:=dne_t g17;omega
   ·have h17:=dne_f g17;refine W.skip (thn_n (W.seq (W.region (L.val (x_mv (v:=.int _ _) rfl) rfl ?_))));refine L.val (x_build (cells:=waV (i,zeros 64)) (places:=[(0,1),(1,64)]) (zero:=Value.int .i64 0 :: (zeros 64).map B8) kr_ rfl (fill0 rfl)) rfl ?_;refine L.alloc (cs:=[Value.int .i64 0,Value.int .u8 0,Value.int .u8 0,Value.int .u8 0,Value.int .u8 0,Value.int .u8 0,Value.int .u8 0,Value.int .u8 0,Value.int .u8 0,Value.int .u8 0,Value.int .u8 0,Value.int .u8 0,Value.int .u8 0,Value.int .u8 0,Value.int .u8 0,Value.int .u8 0,Value.int .u8 0,Value.int .u8 0,Value.int .u8 0,Value.int .u8 0,Value.int .u8 0,Value.int .u8 0,Value.int .u8 0,Value.int .u8 0,Value.int .u8 0,Value.int .u8 0,Value.int .u8 0,Value.int .u8 0,Value.int .u8 0,Value.int .u8 0,Value.int .u8 0,Value.int .u8 0,Value.int .u8 0,Value.int .u8 0,Value.int .u8 0,Value.int .u8 0,Value.int .u8 0,Value.int .u8 0,Value.int .u8 0,Value.int .u8 0,Value.int .u8 0,Value.int .u8 0,Value.int .u8 0,Value.int .u8 0,Value.int .u8 0,Value.int .u8 0,Value.int .u8 0,Value.int .u8 0,Value.int .u8 0,Value.int .u8 0,Value.int .u8 0,Value.int .u8 0,Value.int .u8 0,Value.int .u8 0,Value.int .u8 0,Value.int .u8 0,Value.int .u8 0,Value.int .u8 0,Value.int .u8 0,Value.int .u8 0,Value.int .u8 0,Value.int .u8 0,Value.int .u8 0,Value.int .u8 0,Value.int .u8 0]) kdsf4_zr111 rfl rfl (fun w8 bx8 hw hz8=>?_);have hB:=hB.carry hw;have hb:=hb.carry hw;have hc:=hc.carry hw;have hp:=hp.carry hw;have hk:=hk.carry hw;have bx8o:=bx8;refine L.setRow kdsf4_ag111 rfl rfl bx8 rfl rfl (waV_one (i,zeros 64)) (fun wl17 bx8 hw hzl17=>?_);have hsz:=hB.size;have hB:=hB.set hw om_;have hb:=hb.carryR hw om_;have hc:=Own.carryR hc hw (fun j hj e=>by have e:j=_:=e;have:=hqc j hj;omega);have hp:=hp.carryR hw om_;have hk:=hk.box bx8o kr_ om_ hw;refine L.nil (thn_n (W.seq (W.region ?_)));have bx8o:=bx8;refine L.val (x_fa kdsf4_fo111_1 rfl) rfl ?_;refine L.val (x_slArr Tryz.underlying92 kdsf4_sz5 rfl rfl) rfl ?_;refine L.val (x_mv (v:=S _) rfl) rfl ?_;refine L.cpS Tryz.underlying59 kdsf4_sz5 rfl rfl rfl bx8 om_ (by rw [hs];exact Nat.le_refl _) (fun w23 bx8 hw hz23=>?_);have hsB:=hB.size;have hB:=hB.set hw om_;have hb:=hb.carryR hw om_;have hp:=hp.carryR hw om_;have hk:=hk.box bx8o kr_ om_ hw;have hc:=Own.carryR hc hw (fun j hj e=>by have e:j=_:=e;have:=hqc j hj;omega);have e8:(waV (i,zeros 64)).take (0+1)++s.map B8++(waV (i,zeros 64)).drop (0+1+s.length)=waV (i,s):=by
      rw [hs,List.drop_of_length_le (by rw [waV_len (zeros_len 64)];exact Nat.le_refl _),List.append_nil];rfl
    rw [e8] at bx8;have hb23:=hb;have hc23:=hc;have hk23:=hk;refine L.nil (thn_n (W.seq (W.drawD (fun j=>some j=(Value.slice ac D.ca.length cc).ownBlock∨j=b) (fun j=>some j=(Value.slice ac D.ca.length cc).ownBlock) 10 kdsf4_mixed (fun wD24 hw=>?_))));have hb:=hb.carry hw;have hc:=hc.carry hw;have hp:=hp.carry hw;have bx8:=bx8.carry hw;have hB0:=Gr.refl (fun j=>some j=(Value.slice ac D.ca.length cc).ownBlock) wD24;have hR0:=Gr.refl (fun j=>some j=(Value.slice ac D.ca.length cc).ownBlock∨j=b) wD24;have hD:=hw;refine LAD.take0 (i:=0) rfl kr_ kr_ kr_ kr_ (fun w hw=>x_mv (v:=.pointer _) rfl) rfl ?_;refine LAD.take0 (i:=1) rfl kr_ kr_ kr_ kr_ (fun w hw=>x_mv (v:=.pointer _) rfl) rfl ?_;refine LAD.take0 (i:=2) rfl kr_ kr_ kr_ kr_ (fun w hw=>x_nil rfl) rfl ?_;refine LAD.take0 (i:=3) rfl kr_ kr_ kr_ kr_ (fun w hw=>x_fa kdsf4_fo90_1 rfl) rfl ?_;refine LAD.take1 (i:=4) rfl kr_ kr_ kr_ kr_ kr_ kr_ (fun w hw=>x_ld (v:=.slice _ _ _) kdsf4_oc88 rfl (hw.keepR (fun e=>by have:=hqc _ e;(try dsimp only at this);omega) (hb.cell0 rfl))) rfl ?_;refine LAD.take0 (i:=5) rfl kr_ kr_ kr_ kr_ (fun w hw=>x_ldn (vs:=waV (i,s)) kdsf4_ag111 rfl hwl (hw.keepRowR (fun e=>by rcases e with e | e;(have:=hqc _ e;(try dsimp only at this);omega);(have e:(_:Nat)=_:=e;(try dsimp only at e);omega)) hwl (bx8.row hwl))) rfl ?_;refine LAD.step (rs:=[6]) hR0 (fun _=>hB0) kr_ (by simp) ⟨⟨_,rfl,?_⟩,trivial⟩;refine L.bs (sz:=65) (cells:=waV (i,s)) Tryz.underlying88 kdsf4_el111 rfl (by show (partsOk 65 0 [(0,Value.agg (waV (i,s)).toArray)] && decide ([((0:Nat),Value.agg (waV (i,s)).toArray)].length=1) && decide (0<1) && decide (1 * 65≤16777216))=true;simp [partsOk,hwl,Value.cells]) (List.append_nil (waV (i,s))) rfl (fun w30 bx30 hw hz30=>?_);have hB0:=hB0.carry hw;have hR0:=hR0.carry hw;have hb:=hb.carry hw;have hc:=hc.carry hw;refine L.nil (thn_n (LAD.step (rs:=[7]) hR0 (fun _=>hB0) kr_ (by simp) ⟨⟨_,rfl,?_⟩,trivial⟩));refine L.appendN (m:=1) Tryz.underlying88 kdsf4_el111 rfl rfl rfl hc (by rw [hwl]) (holdsN_box bx30) (waV_one (i,s)) om_ (by have:=hB.size;have:=hB0.size;have:=hD.size;omega) (fun v31 w31 hO31 hg hob31=>?_);have hB0:=hB0.intoR hg (fun k e=>e);have hR0:=hR0.intoR hg (fun k e=>.inl e);have hb:=hb.carryR hg (fun e=>(hqc _ e).2.2.1 rfl);have hb31:=hb;obtain ⟨a31,c31,e31,-⟩:=own_shape hO31;subst e31;refine L.nil (thn_n (LAD.take0 (i:=8) rfl kr_ kr_ kr_ kr_ (fun w hw=>x_nil rfl) rfl ?_));refine LAD.take0 (i:=9) rfl kr_ kr_ kr_ kr_ (fun w hw=>x_fa kdsf4_fo90_1 rfl) rfl ?_;refine LAD.step (rs:=[10]) hR0 (fun _=>hB0) kr_ (by simp) ⟨⟨_,rfl,?_⟩,trivial⟩;refine L.set (v:=.slice _ _ _) kdsf4_sz88 rfl rfl rfl hb rfl (fun wl32 hb hw hzl32=>?_);have hR0:=hR0.into hw (by first | exact .inl rfl | exact .inr rfl);have hn31:∀ j,some j=(Value.slice a31 (D.ca.length+1) c31).ownBlock→j≠b:=fun j hj e=>own_box_ne hO31 hb31 (by decide) (e ▸ hj)
    have hO32:=Own.carryR hO31 hw (fun j hj e=>hn31 j hj e);refine L.nil (thn_n (LAD.done kr_ kr_ hR0 ?_));have hp:=hp.carryR hR0 (fun e=>by rcases e with e | e;exact (hqc _ e).2.2.2 rfl;exact hbpne e);have bx8:=trivial;have hall:Gr (fun j=>some j=(Value.slice ac D.ca.length cc).ownBlock∨j=b) w23 wl32:=((Gr.refl _ _).carry hD).trans hR0;have hdk:∀ k,(some k=(Value.slice ac D.ca.length cc).ownBlock∨k=b)→DkB dkTy n0 w23 k:=fun k e=>by
      rcases e with e | rfl
      · exact DkB.own hc23 kr_ (Nat.le_refl _) k e
      · exact DkB.box hb23 kr_ h1
    have hk:AllBl n0 wl32 _ K.keep:=hk23.dg (hall.mono fun k _ e=>DkB.mono (hdk k e) lg_of_dk);have hDg:Dg dkTy n0 w wl32:=(Dg.of_bel hB).trans (hall.mono fun k _ e=>hdk k e);have hOca:Own wl32 n0 111 65 (.slice a31 (D.ca.length+1) c31) (D.ca++[(i,s)]).length ((D.ca++[(i,s)]).map waV).flatten:=by simpa using hO32
    refine thn_n (W.seq (W.seq (W.region (L.val (x_mv (v:=.pointer _) rfl) rfl ?_))));refine L.ret (x_call kdsf4_en53 rfl) rfl (falls_f b _ _ _ _ _ D _ hb om_ ha) ?_;rintro _ w35 ⟨rfl,hb35,hG35⟩;have hDg:=hDg.trans (hG35.mono (R':=DkB dkTy n0 _) fun k _ e=>by have e:k=b:=e;rw [e];exact DkB.box hb kr_ h1);have hk:=hk.box hb kr_ h1 hG35;have hp:=hp.carryR hG35 (fun e=>hbpne e);have hO35:=Own.carryR hOca hG35 (fun j hj e=>hn31 j hj e);have hb:=hb35;refine L.nil (thn_n (W.cond (b:=_) rfl (fun g35=>?_) (fun g35=>?_)))
    ·have h35:=g35;have ha1:D.armed=1:=by simpa using g35
     refine W.seq (W.region (L.val (x_mv (v:=.pointer _) rfl) rfl ?_));refine L.val (x_mv (v:=.pointer _) rfl) rfl ?_;refine L.val (x_nil rfl) rfl ?_;refine L.val (x_fa kdsf4_fo90_2 rfl) rfl ?_;refine L.val (x_ldn (vs:=[.slice pk K.keep.length ck,.int .i64 K.torn,.int .i64 K.cut]) kdsf4_ag50 rfl rfl (fall_row hb)) rfl ?_;refine L.ret (x_call kdsf4_en54 rfl) rfl (drop_f n0 b bp _ _ _ _ _ { wrD D i s with armed:=D.armed - 1 } K _ h1 h3 hD1 hb hk hp hO35) ?_;rintro _ w41 ⟨hb41,hp41,hG41⟩;refine L.nil (thn_n (W.seq (W.region (L.val (x_as (v:=.int _ _) rfl) rfl ?_))));refine L.nil (thn_n (W.ret (thn_r (fin_mk (.inr rfl) ?_))));have e:wrF D K i s=dropD { wrD D i s with armed:=D.armed - 1 } K:=by unfold wrF;rw [if_pos ha1];rfl
     rw [e,if_pos ha1];unfold Kn;rw [if_pos ha1];exact ⟨rfl,diskF_drop h1 h3 hD1 hb41 hp41,hDg.trans hG41⟩
    ·have h35:=g35;have ha1:¬ D.armed=1:=by simpa using g35
     refine W.skip (thn_n (W.seq (W.region (L.val (x_as (v:=.int _ _) rfl) rfl ?_))));refine L.nil (thn_n (W.ret (fin_mk (.inr rfl) ?_)));have e:wrF D K i s={ wrD D i s with armed:=D.armed - 1 }:=by unfold wrF;rw [if_neg ha1]
     rw [e,if_neg ha1];unfold Kn;rw [if_neg ha1];exact ⟨rfl,⟨h1,hD1,bp,_,_,h3,hb,hk,hp,hO35⟩,hDg⟩
end Go.Gx
namespace Go.Gx
open Go.Proofs
theorem kdsf5_ag111:aggT Tryz.prog 111 65=true:=by kernel_rfl
theorem kdsf5_ag50:aggT Tryz.prog 50 3=true:=by kernel_rfl
theorem kdsf5_ag92:aggT Tryz.prog 92 64=true:=by kernel_rfl
theorem kdsf5_en51:Go.Proofs.Enters Tryz.prog 51:=Go.Proofs.enters_of Tryz.func51 kr_ rfl
theorem kdsf5_en53:Go.Proofs.Enters Tryz.prog 53:=Go.Proofs.enters_of Tryz.func53 kr_ rfl
theorem kdsf5_en54:Go.Proofs.Enters Tryz.prog 54:=Go.Proofs.enters_of Tryz.func54 kr_ rfl
theorem kdsf5_en57:Go.Proofs.Enters Tryz.prog 57:=Go.Proofs.enters_of Tryz.func57 kr_ rfl
theorem kdsf5_fo111_0:fieldOff Tryz.prog 111 0=some 0:=by kernel_rfl
theorem kdsf5_fo111_1:fieldOff Tryz.prog 111 1=some 1:=by kernel_rfl
theorem kdsf5_fo90_0:fieldOff Tryz.prog 90 0=some 0:=by kernel_rfl
theorem kdsf5_fo90_1:fieldOff Tryz.prog 90 1=some 1:=by kernel_rfl
theorem kdsf5_fo90_2:fieldOff Tryz.prog 90 2=some 2:=by kernel_rfl
theorem kdsf5_fo90_5:fieldOff Tryz.prog 90 5=some 7:=by kernel_rfl
theorem kdsf5_mixed:Tryz.prog.follows .mixedOrders=true:=by kernel_rfl
theorem kdsf5_oc3:oneCellT Tryz.prog 3=true:=by kernel_rfl
theorem kdsf5_oc87:oneCellT Tryz.prog 87=true:=by kernel_rfl
theorem kdsf5_oc88:oneCellT Tryz.prog 88=true:=by kernel_rfl
theorem kdsf5_sz111:(Tryz.prog.info? 111).map (·.size)=some 65:=by kernel_rfl
theorem kdsf5_sz4:(Tryz.prog.info? 4).map (·.size)=some 1:=by kernel_rfl
theorem kdsf5_sz88:(Tryz.prog.info? 88).map (·.size)=some 1:=by kernel_rfl
theorem kdsf5_sz92:(Tryz.prog.info? 92).map (·.size)=some 64:=by kernel_rfl
theorem kdsf5_zr111:(Tryz.prog.info? 111).bind (·.zero)=some (Value.agg [Value.int .i64 0,Value.int .u8 0,Value.int .u8 0,Value.int .u8 0,Value.int .u8 0,Value.int .u8 0,Value.int .u8 0,Value.int .u8 0,Value.int .u8 0,Value.int .u8 0,Value.int .u8 0,Value.int .u8 0,Value.int .u8 0,Value.int .u8 0,Value.int .u8 0,Value.int .u8 0,Value.int .u8 0,Value.int .u8 0,Value.int .u8 0,Value.int .u8 0,Value.int .u8 0,Value.int .u8 0,Value.int .u8 0,Value.int .u8 0,Value.int .u8 0,Value.int .u8 0,Value.int .u8 0,Value.int .u8 0,Value.int .u8 0,Value.int .u8 0,Value.int .u8 0,Value.int .u8 0,Value.int .u8 0,Value.int .u8 0,Value.int .u8 0,Value.int .u8 0,Value.int .u8 0,Value.int .u8 0,Value.int .u8 0,Value.int .u8 0,Value.int .u8 0,Value.int .u8 0,Value.int .u8 0,Value.int .u8 0,Value.int .u8 0,Value.int .u8 0,Value.int .u8 0,Value.int .u8 0,Value.int .u8 0,Value.int .u8 0,Value.int .u8 0,Value.int .u8 0,Value.int .u8 0,Value.int .u8 0,Value.int .u8 0,Value.int .u8 0,Value.int .u8 0,Value.int .u8 0,Value.int .u8 0,Value.int .u8 0,Value.int .u8 0,Value.int .u8 0,Value.int .u8 0,Value.int .u8 0,Value.int .u8 0].toArray):=by kernel_rfl
theorem flush_f (n0 b:Nat) (D:Dk) (K:Fl) (w:World) (h:DiskF n0 w b D K) (ha:D.armed≤9223372036854775807) (hd:D.dead=false) (hn:n0≤w.heap.size) (hf:D.ops<1000000000):
    Ret Tryz.prog 23 #[.pointer (some ⟨b,0,none⟩)] w fun v w'=>v=.int .i64 (if D.armed=1 then 190 else 0)∧DiskF n0 w' b (flF D K) (Kn D K)∧Dg dkTy n0 w w':=by
  obtain ⟨h1,h2,bp,vc,vk,h3,hb,hk,hp,hc⟩:=id h;have hk:AllBl n0 w vk K.keep:=hk;obtain ⟨pk,ck,rfl,-⟩:=id hk;obtain ⟨ac,cc,rfl,hcc⟩:=own_shape hc;have hr:readyD D 0=0:=by unfold readyD;rw [hd,if_neg (by decide),if_pos ⟨by omega,by have:=h2.pos;omega⟩]
  have hbpne:bp≠b:=box_ne hp hb (by decide);have hqc:∀ j,some j=(Value.slice ac D.ca.length cc).ownBlock→j≠b∧j≠bp:=fun j hj=>⟨fun e=>own_box_ne hc hb (by decide) (e ▸ hj),fun e=>own_box_ne hc hp (by decide) (e ▸ hj)⟩
  have hca:∀ x∈D.ca,x.2.length=64:=fun x hx=>(h2.cac x hx).2
  have hfew:=h2.few;have hD1:DkOk { D with ops:=D.ops+1,armed:=D.armed - 1 }:=⟨h2.pos,h2.small,h2.sec,h2.cac,by dsimp only;omega⟩;refine ret_of_W Tryz.func23 rfl (Nat.le_of_ble_eq_true rfl) (res1 rfl) ?_;refine W.seq (W.region (L.val (x_as (v:=.int _ _) rfl) rfl ?_));refine L.nil (thn_n (W.seq (W.seq (W.region (L.val (x_mv (v:=.pointer _) rfl) rfl ?_)))));refine L.ret (x_call kdsf5_en51 rfl) rfl (ready_d n0 b D _ _ h.at) ?_;rintro _ w7 ⟨rfl,hq⟩;rw [hq,hr];refine L.val (x_as (v:=.int _ _) rfl) rfl ?_;refine L.nil (thn_n (W.seq (W.region (L.val (x_mv (v:=.int _ _) rfl) rfl ?_))));refine L.val (x_neq rfl rfl) rfl ?_;refine L.nil (thn_n (W.cond (b:=_) rfl (fun g9=>?_) (fun g9=>?_)))
  ·have h9:=dne_t g9;cases g9
  ·have h9:=dne_f g9;refine W.skip (thn_n (W.seq (W.seq (W.region (L.val (x_mv (v:=.pointer _) rfl) rfl ?_)))));refine L.ret (x_call kdsf5_en53 rfl) rfl (falls_f b _ _ _ _ _ D _ hb om_ ha) ?_;rintro _ w12 ⟨rfl,hb12,hG12⟩;have hp:=hp.carryR hG12 (fun e=>hbpne e);have hc:=Own.carryR hc hG12 (fun j hj e=>(hqc j hj).1 e);have hk:=hk.box hb kr_ h1 hG12;have hG:Dg dkTy n0 w w12:=hG12.mono (fun k _ e=>by have e:k=b:=e;rw [e];exact DkB.box hb kr_ h1);have hb:=hb12;refine L.nil (thn_n (W.cond (b:=_) rfl (fun g12=>?_) (fun g12=>?_)))
   ·have h12:=g12;have ha1:D.armed=1:=by simpa using g12
    refine W.seq (W.region (L.val (x_mv (v:=.pointer _) rfl) rfl ?_));refine L.val (x_mv (v:=.pointer _) rfl) rfl ?_;refine L.val (x_nil rfl) rfl ?_;refine L.val (x_fa kdsf5_fo90_2 rfl) rfl ?_;refine L.val (x_ldn (vs:=[.slice pk K.keep.length ck,.int .i64 K.torn,.int .i64 K.cut]) kdsf5_ag50 rfl rfl (fall_row hb)) rfl ?_;refine L.ret (x_call kdsf5_en54 rfl) rfl (drop_f n0 b bp _ _ _ _ _ { D with ops:=D.ops+1,armed:=D.armed - 1 } K _ h1 h3 hD1 hb hk hp hc) ?_;rintro _ w18 ⟨hb18,hp18,hG18⟩;refine L.nil (thn_n (W.seq (W.region (L.val (x_as (v:=.int _ _) rfl) rfl ?_))));refine L.nil (thn_n (W.ret (thn_r (fin_mk (.inr rfl) ?_))));have e:flF D K=dropD { D with ops:=D.ops+1,armed:=D.armed - 1 } K:=by unfold flF;rw [if_pos ha1];rfl
    rw [e,if_pos ha1];unfold Kn;rw [if_pos ha1];exact ⟨rfl,diskF_drop h1 h3 hD1 hb18 hp18,hG.trans hG18⟩
   ·have h12:=g12;have ha1:¬ D.armed=1:=by simpa using g12
    refine W.skip (thn_n (W.seq (W.seq (W.region (L.val (x_mv (v:=.pointer _) rfl) rfl ?_)))));refine L.val (x_nil rfl) rfl ?_;refine L.val (x_fa kdsf5_fo90_1 rfl) rfl ?_;refine L.val (x_ld (v:=.slice _ _ _) kdsf5_oc88 rfl (hb.cell0 rfl)) rfl ?_;refine L.val (x_len_slice Tryz.underlying88 rfl) rfl ?_;refine L.val (x_mv (v:=.int _ _) rfl) rfl ?_;refine L.nil (thn_n (W.block (W.loop (fun m' E w'=>∃ (j:Nat),m'=D.ca.length - j∧E 0=.pointer (some ⟨b,0,none⟩)∧E 22=.slice ac D.ca.length cc∧E 23=.int .i64 (D.ca.length:Nat)∧E 24=.int .i64 (j:Nat)∧(j≤D.ca.length)∧(Dg dkTy n0 w w')∧(Box w' b 90 (dkV (.slice (some ⟨bp,0,none⟩) D.pl.length D.pl.length) (.slice ac D.ca.length cc) (.slice pk K.keep.length ck) K.torn K.cut { D with ops:=D.ops+1,armed:=D.armed - 1 }))∧(Box w' bp 92 (plV (apD D.pl (D.ca.take j))))∧(Own w' n0 111 65 (.slice ac D.ca.length cc) D.ca.length (D.ca.map waV).flatten)∧(AllBl n0 w' (.slice pk K.keep.length ck) K.keep)) (D.ca.length) ?_ ?_)))
    ·exact ⟨0,by omega,by first | rfl | exact vi om_ | exact vs (by first | assumption | (rw [hst];done) | (rw [hst];simp only [List.append_assoc])),by first | rfl | exact vi om_ | exact vs (by first | assumption | (rw [hst];done) | (rw [hst];simp only [List.append_assoc])),by first | rfl | exact vi om_ | exact vs (by first | assumption | (rw [hst];done) | (rw [hst];simp only [List.append_assoc])),by first | rfl | exact vi om_ | exact vs (by first | assumption | (rw [hst];done) | (rw [hst];simp only [List.append_assoc])),ao_,ao_,ao_,ao_,ao_,ao_⟩
    ·rintro _ E wL25 ⟨j,em,e0,e22,e23,e24,hj,hG,hb,hp,hc,hk⟩;rw [upd_self e0,upd_self e22,upd_self e23,upd_self e24];refine W.seq (W.region (L.val (x_lss rfl rfl) rfl ?_));refine L.nil (thn_n (W.seq (W.cond (b:=_) rfl (fun g25=>?_) (fun g25=>?_))))
     ·have h25:=of_decide_eq_true g25;have hlt:j<D.ca.length:=by omega
      obtain ⟨bc,rfl⟩:=own_pos hc om_;have hrow:=own_rowK hc (ca_lens hca) (i:=j) (by rw [List.length_map];exact hlt);rw [ca_get hlt] at hrow;obtain ⟨x,hx⟩:∃ x,x=D.ca.getD j default:=⟨_,rfl⟩;rw [← hx] at hrow;have hxm:x∈D.ca:=by rw [hx,List.getD_eq_getElem?_getD,List.getElem?_eq_getElem hlt];exact List.getElem_mem hlt
      obtain ⟨hx1,hx2⟩:=h2.cac x hxm;have hwl:(waV x).length=65:=waV_len hx2;have hst:=apD_take (pl:=D.pl) hlt;rw [← hx] at hst;have hsec:∀ s∈apD D.pl (D.ca.take j),s.length=64:=apD_sec h2.sec (fun y hy=>hca y (List.mem_of_mem_take hy));have hapl:=apD_len (D.ca.take j) D.pl;have hbl:=hb.lt;have hbpl:=hp.lt;have hB:=Gr.refl (fun _=>False) wL25;refine W.skip (thn_n (W.seq (W.block (W.seq (W.region ?_)))));have hc0:=hc;refine L.val (x_ia (j:=j) Tryz.underlying88 kdsf5_sz111 rfl rfl om_ om_) rfl ?_;refine L.val (x_ldn (vs:=waV x) kdsf5_ag111 rfl hwl hrow) rfl ?_;refine L.alloc (cs:=[Value.int .i64 0,Value.int .u8 0,Value.int .u8 0,Value.int .u8 0,Value.int .u8 0,Value.int .u8 0,Value.int .u8 0,Value.int .u8 0,Value.int .u8 0,Value.int .u8 0,Value.int .u8 0,Value.int .u8 0,Value.int .u8 0,Value.int .u8 0,Value.int .u8 0,Value.int .u8 0,Value.int .u8 0,Value.int .u8 0,Value.int .u8 0,Value.int .u8 0,Value.int .u8 0,Value.int .u8 0,Value.int .u8 0,Value.int .u8 0,Value.int .u8 0,Value.int .u8 0,Value.int .u8 0,Value.int .u8 0,Value.int .u8 0,Value.int .u8 0,Value.int .u8 0,Value.int .u8 0,Value.int .u8 0,Value.int .u8 0,Value.int .u8 0,Value.int .u8 0,Value.int .u8 0,Value.int .u8 0,Value.int .u8 0,Value.int .u8 0,Value.int .u8 0,Value.int .u8 0,Value.int .u8 0,Value.int .u8 0,Value.int .u8 0,Value.int .u8 0,Value.int .u8 0,Value.int .u8 0,Value.int .u8 0,Value.int .u8 0,Value.int .u8 0,Value.int .u8 0,Value.int .u8 0,Value.int .u8 0,Value.int .u8 0,Value.int .u8 0,Value.int .u8 0,Value.int .u8 0,Value.int .u8 0,Value.int .u8 0,Value.int .u8 0,Value.int .u8 0,Value.int .u8 0,Value.int .u8 0,Value.int .u8 0]) kdsf5_zr111 rfl rfl (fun w5 bx5 hw hz5=>?_);have hB:=hB.carry hw;have hb:=hb.carry hw;have hp:=hp.carry hw;have hc:=hc.carry hw;have hk:=hk.carry hw;have bx5o:=bx5;refine L.setRow kdsf5_ag111 rfl rfl bx5 rfl hwl (waV_one x) (fun wl28 bx5 hw hzl28=>?_);have hsz:=hB.size;have hB:=hB.set hw om_;have hb:=hb.carryR hw om_;have hp:=hp.carryR hw (by first | exact fun e=>hbpne e | omega);have hc:=Own.carryR hc hw (fun i hi e=>by have e:i=_:=e;have:=(Own.lt hc0 hi).2;omega);have hk:=hk.box bx5o kr_ om_ hw;have hB28:=hB;refine L.nil (thn_n (W.drawD (fun i=>i=bp∨i=bp) (fun _=>False) 9 kdsf5_mixed (fun wD28 hw=>?_)));have hb:=hb.carry hw;have bx5:=bx5.carry hw;have hc:=hc.carry hw;have hB:=hB.carry hw;have hk:=hk.carry hw;have hB0:=Gr.refl (fun _=>False) wD28;have hR0:=Gr.refl (fun i=>i=bp∨i=bp) wD28;have hD:=hw;refine LAD.take0 (i:=0) rfl kr_ kr_ kr_ kr_ (fun w hw=>x_mv (v:=.pointer _) rfl) rfl ?_;refine LAD.take0 (i:=1) rfl kr_ kr_ kr_ kr_ (fun w hw=>x_nil rfl) rfl ?_;refine LAD.take0 (i:=2) rfl kr_ kr_ kr_ kr_ (fun w hw=>x_fa kdsf5_fo90_0 rfl) rfl ?_;refine LAD.take0 (i:=3) rfl kr_ kr_ kr_ kr_ (fun w hw=>x_ld (v:=.slice _ _ _) kdsf5_oc87 rfl (hw.keepR (fun e=>by have e:(_:Nat)=_:=e.elim id id;(try dsimp only at e);omega) (hb.cell0 rfl))) rfl ?_;refine LAD.take0 (i:=4) rfl kr_ kr_ kr_ kr_ (fun w hw=>x_fa kdsf5_fo111_0 rfl) rfl ?_;refine LAD.take0 (i:=5) rfl kr_ kr_ kr_ kr_ (fun w hw=>x_ld (v:=.int _ _) kdsf5_oc3 rfl (hw.keepR (fun e=>by have e:(_:Nat)=_:=e.elim id id;(try dsimp only at e);omega) (bx5.cell0 rfl))) rfl ?_;refine LAD.take0 (i:=6) rfl kr_ kr_ kr_ kr_ (fun w hw=>x_fa kdsf5_fo111_1 rfl) rfl ?_;refine LAD.take0 (i:=7) rfl kr_ kr_ kr_ kr_ (fun w hw=>x_ldn (vs:=x.2.map B8) kdsf5_ag92 rfl (by rw [List.length_map,hx2]) (hw.keepRowR (fun e=>by have e:(_:Nat)=_:=e.elim id id;(try dsimp only at e);omega) (by rw [List.length_map,hx2]) (bx5.rowD 1 (k:=64) (by simp [waV,hx2])))) rfl ?_;refine LAD.take0 (i:=8) rfl kr_ kr_ kr_ kr_ (fun w hw=>x_ia (j:=x.1) Tryz.underlying87 kdsf5_sz92 rfl rfl om_ om_) rfl ?_;refine LAD.step (rs:=[9]) hR0 (fun _=>hB0) kr_ (by simp) ⟨⟨_,rfl,?_⟩,trivial⟩;refine L.setPart (k:=64) kdsf5_ag92 rfl rfl (hp.carry hD) (by rw [plV_len hsec,hapl];omega) (by rw [List.length_map,hx2]) (B8_one _) (fun wl38 hpN hw hzl38=>?_);rw [plV_set hsec om_,← hst] at hpN;have hR0:=hR0.into hw (.inr rfl);refine L.nil (thn_n (LAD.done kr_ kr_ hR0 ?_));have hb:=hb.carryR hR0 (fun e=>hbpne (e.elim id id).symm);have bx5:=trivial;have hc:=Own.carryR hc hR0 (fun i hi e=>(hqc i hi).2 (e.elim id id));have hB:=trivial;have hk:=hk.box (hp.carry hD) kr_ h3 (hR0.mono (fun _ _ e=>e.elim id id));have hp2:=hpN;have hall:Gr (fun i=>i=bp∨i=bp) wl28 wl38:=((Gr.refl _ _).carry hD).trans hR0;have hG2:Dg dkTy n0 w wl38:=(hG.trans (Dg.of_bel hB28)).trans (hall.mono fun k _ e=>by rw [e.elim id id];exact DkB.box hp kr_ h3);refine blk_n (thn_n (W.region (L.val (x_add rfl rfl (wr64 om_)) rfl ?_)));refine L.val (x_mv (v:=.int _ _) rfl) rfl ?_;refine L.nil (thn_n ⟨rfl,?_⟩);refine ⟨_,?_,j+1,rfl,by first | rfl | exact vi om_ | exact vs (by first | assumption | (rw [hst];done) | (rw [hst];simp only [List.append_assoc])),by first | rfl | exact vi om_ | exact vs (by first | assumption | (rw [hst];done) | (rw [hst];simp only [List.append_assoc])),by first | rfl | exact vi om_ | exact vs (by first | assumption | (rw [hst];done) | (rw [hst];simp only [List.append_assoc])),by first | rfl | exact vi om_ | exact vs (by first | assumption | (rw [hst];done) | (rw [hst];simp only [List.append_assoc])),ao_,(by exact hG2),ao_,(by exact hp2),ao_,ao_⟩;omega
     ·have h25:=dlt_f g25;have hjn:j=D.ca.length:=by omega
      subst hjn;rw [List.take_length] at hp;have hb25:=hb;refine W.exit (thn_x (thn_x (blk_hit ?_)));refine thn_n (W.seq (W.region (L.val (x_mv (v:=.pointer _) rfl) rfl ?_)));refine L.val (x_nil rfl) rfl ?_;refine L.val (x_fa kdsf5_fo90_1 rfl) rfl ?_;refine L.set (v:=.slice _ _ _) kdsf5_sz88 rfl rfl rfl hb rfl (fun wl44 hb hw hzl44=>?_);have hp:=hp.carryR hw (by first | exact fun e=>hbpne e | omega);refine L.nil (thn_n (W.seq (W.region (L.val (x_as (v:=.int _ _) rfl) rfl ?_))));refine L.nil (thn_n (W.ret (fin_mk (.inr rfl) ?_)));have e:flF D K={ flD D with armed:=D.armed - 1 }:=by unfold flF;rw [if_neg ha1]
      rw [e,if_neg ha1];unfold Kn;rw [if_neg ha1];refine ⟨rfl,⟨h1,⟨?_,?_,apD_sec h2.sec hca,fun x hx=>(by cases hx),?_⟩,bp,.slice none 0 0,.slice pk K.keep.length ck,h3,?_,hk.box hb25 kr_ h1 hw,hp,own_nil⟩,hG.trans (hw.mono fun k _ e=>?_)⟩
      · show 0<(apD D.pl D.ca).length;rw [apD_len];exact h2.pos
      · show (apD D.pl D.ca).length≤_;rw [apD_len];exact h2.small
      · show 0≤100000∧D.ops+1≤_;omega
      · have e1:({ flD D with armed:=D.armed - 1 }:Dk).pl.length=D.pl.length:=apD_len _ _;rw [e1];exact hb
      · have e:k=b:=e;rw [e];exact DkB.box hb25 kr_ h1
theorem boot_f (n0 b:Nat) (D:Dk) (K:Fl) (w:World) (h:DiskF n0 w b D K):Ret Tryz.prog 38 #[.pointer (some ⟨b,0,none⟩)] w fun v w'=>v=.int .i64 0∧DiskF n0 w' b { D with dead:=false } K∧Dg dkTy n0 w w':=by
  obtain ⟨h1,h2,bp,vc,vk,h3,hb,hk,hp,hc⟩:=id h;have hk:AllBl n0 w vk K.keep:=hk;have hbpne:bp≠b:=box_ne hp hb (by decide);have hb0:=hb;refine ret_of_W Tryz.func38 rfl (Nat.le_of_ble_eq_true rfl) (res1 rfl) ?_;refine W.seq (W.region (L.val (x_as (v:=.int _ _) rfl) rfl ?_));refine L.nil (thn_n (W.seq (W.seq (W.region (L.val (x_mv (v:=.pointer _) rfl) rfl ?_)))));refine L.ret (x_call kdsf5_en57 rfl) rfl (none_d n0 b D _ h.at) ?_;rintro _ w4 ⟨rfl,hq⟩;rw [hq];refine L.nil (thn_n (W.cond (b:=_) rfl (fun g4=>?_) (fun g4=>?_)))
  ·have h4:=g4;cases g4
  ·have h4:=g4;refine W.skip (thn_n (W.seq (W.region (L.val (x_mv (v:=.pointer _) rfl) rfl ?_))));refine L.val (x_nil rfl) rfl ?_;refine L.val (x_fa kdsf5_fo90_5 rfl) rfl ?_;refine L.set (v:=.bool _) kdsf5_sz4 rfl rfl rfl hb rfl (fun wl8 hb hw hzl8=>?_);refine L.nil (thn_n (W.seq (W.region (L.val (x_as (v:=.int _ _) rfl) rfl ?_))));refine L.nil (thn_n (W.ret (fin_mk (.inr rfl) ?_)));refine ⟨rfl,⟨h1,⟨h2.pos,h2.small,h2.sec,h2.cac,h2.few⟩,bp,vc,vk,h3,hb,hk.box hb0 kr_ h1 hw,hp.carryR hw (fun e=>hbpne e),Own.carryR hc hw (fun j hj e=>by have e:j=b:=e;exact own_box_ne hc hb0 (by decide) (e ▸ hj))⟩,hw.mono (fun k _ e=>?_)⟩;have e:k=b:=e;rw [e];exact DkB.box hb0 kr_ h1
end Go.Gx
namespace Go.Gx
open Go.ChangeShapes Go.WideShapes Go.Deep Go.RowKit
section
variable {P:Program} {n:Nat} {Q:Post} {D:List Deferred} {E:Env} {w:World}
theorem L.appendNC {base:Nat} {e:TypeId} {sz:Nat} {v:Value} {k:Nat} {xs:List Value} {ops:Array Oper} {r:List Oper} {d:Nat} {x y:Operand} {T t:TypeId} {p:String} {af:Array Edge} {u:Value} {m Bt:Nat} {news:List Value}
    (hu:P.underlying T=some (.slice e)) (he:elT P e sz=true) (hbt:(P.info? e).map (fun i=>decide (i.bytes≤Bt))=some true) (h1B:1≤Bt) (hx:ev E x=v) (hy:ev E y=u) (hd:Nat.blt d n=true) (h:Own w base e sz v k xs)
    (hl:news.length=m * sz) (hn:HoldsN w u m news) (h1:∀ u∈news,u.oneCell'=true) (hk:(k+m) * Bt≤140737488355328) (hb:base≤w.heap.size)
    (kk:∀ v' w',Own w' base e sz v' (k+m) (xs++news)→Gr (fun j=>some j=v.ownBlock) w w'→(v'.ownBlock=v.ownBlock∨v'.ownBlock=some w.heap.size)→L P n ops Q r D (upd E d v') w'):
    L P n ops Q (⟨some d,.call ⟨.builtin .append,#[x,y],#[T,T]⟩,t,p,af,none⟩ :: r) D E w:=by
  obtain ⟨i,z,hi,hz,hs,hzs,hpos,-⟩:=elT_spec he;have hby:i.bytes≤Bt:=by rw [hi] at hbt;simpa using hbt
  rcases hn with ⟨a,c,rfl,hn⟩ | ⟨c,rfl,rfl,rfl⟩
  · have hkm:k+m≤140737488355328:=Nat.le_trans (Nat.le_mul_of_pos_right _ h1B) hk;obtain ⟨v',w',a1,a2,a3,a4,a5⟩:=run_append_own_at (P:=P) w base T t e i z sz i.bytes hu hi hz hs rfl hzs hpos v k xs h a m c news hl hn h1 (by simp only [maxLen];omega) (Nat.le_trans (Nat.mul_le_mul_left _ hby) hk) hb;exact L.val (x_append hx hy a1) hd (kk v' w' a2 (gr_of_grown a3) a5)
  · have hrun:(Builtin.append_ #[T,T] t #[v,.slice none 0 c]).run P w=.ok v w:=by
      rcases h.2 with ⟨rfl,rfl⟩ | ⟨g,cap,cur,rfl,_,_,hnc,_⟩
      · simp [Builtin.append_,run_underlying hu,sizeOf,typeInfo,hi,Builtin.lenOf,Builtin.firstCells]
      · simp [Builtin.append_,run_underlying hu,sizeOf,typeInfo,hi,Builtin.lenOf,Builtin.firstCells,hnc,storeCells]
    refine L.val (x_append hx hy hrun) hd (kk v w (by simpa using h) (Gr.refl _ _) (.inl rfl))
end
end Go.Gx
namespace Go.Gx
open Go.Proofs
theorem kdsf6_el4:elT Tryz.prog 4 1=true:=by kernel_rfl
theorem bls_own {n0 base:Nat} {w:World} {v:Value} {l:List Bool} (h:Own w base 4 1 v l.length (l.map Value.bool)) (hl:l.length≤140737488355328):AllBl n0 w v l:=by
  have hn:=DkB.no_own (ty:=nbTy) (n0:=n0) h kr_;rcases h.open with ⟨rfl,hk,-⟩ | ⟨b,cap,tl,rfl,hbb,hcap,hcm,hbx⟩
  · have hn:l=[]:=List.eq_nil_of_length_eq_zero hk;subst hn;exact ⟨none,0,rfl,Nat.le_refl _,by omega,by simp,fun e=>absurd rfl e⟩
  · refine ⟨_,cap,rfl,hcap,hcm,hl,fun _=>⟨b,0,rfl,hn b rfl,fun i hi=>hbx.cell0 ?_⟩⟩;rw [List.getElem?_append_left (by simpa using hi)];simp [hi]
theorem bls_holds {A:Nat→Prop} {w:World} {v:Value} {l:List Bool} (h:BlsAt A w v l):HoldsN w v l.length (l.map Value.bool):=by
  obtain ⟨p,cap,rfl,h1,h2,h3,h4⟩:=h;by_cases hl:l=[]
  · subst hl;cases p with
    | none=>exact .inr ⟨cap,rfl,rfl,rfl⟩
    | some a=>exact .inl ⟨a,cap,rfl,fun j u hu=>by simp at hu⟩
  · obtain ⟨b,o,rfl,hA,hc⟩:=h4 hl;refine .inl ⟨⟨b,o,none⟩,cap,rfl,fun j u hu=>?_⟩;have hj:j<l.length:=by have:=(List.getElem?_eq_some_iff.1 hu).1;simpa using this
    rw [List.getElem?_map,List.getElem?_eq_getElem hj] at hu;simp only [Option.map_some,Option.some.injEq] at hu;have:=hc j hj;rw [List.getD_eq_getElem?_getD,List.getElem?_eq_getElem hj] at this;rw [show (⟨b,o,none⟩:Addr).add j=⟨b,o+j,none⟩ by simp [Addr.add],this,← hu];rfl
theorem bool_bytes:(Tryz.prog.info? 4).map (fun i=>decide (i.bytes≤1))=some true:=by kernel_rfl
theorem clone_bls (A:Nat→Prop) (v:Value) (l:List Bool) (w:World) (h:BlsAt A w v l):Ret Tryz.prog 52 #[v] w fun v' w'=>((∀ n0,AllBl n0 w' v' l)∧v'.oneCell'=true)∧Bel w w':=by
  have hh:=bls_holds h;obtain ⟨p,cap,rfl,p1,p2,p3,hp⟩:=id h;refine ret_of_W Tryz.func52 rfl (Nat.le_of_ble_eq_true rfl) (res1 rfl) ?_;have hB:=Gr.refl (fun _=>False) w;refine W.seq (W.region (L.val (x_as (v:=.slice _ _ _) rfl) rfl ?_));refine L.nil (thn_n (W.seq (W.seq (W.region (L.val (x_mv (v:=.slice _ _ _) rfl) rfl ?_)))));refine L.val (x_eql0 Tryz.underlying48 rfl rfl) rfl ?_;refine L.nil (thn_n (W.cond (b:=_) rfl (fun g4=>?_) (fun g4=>?_)))
  ·have h4:=g4;refine W.seq (W.region (L.val (x_as (v:=.slice _ _ _) rfl) rfl ?_));refine L.nil (thn_n (W.ret (thn_r (fin_mk (.inr rfl) ?_))));have e:l=[]:=by cases p with
     | none=>exact Classical.byContradiction fun hne=>by obtain ⟨b,o,e,-⟩:=hp hne;cases e
     | some a=>cases h4
   subst e;exact ⟨⟨fun n0=>⟨none,0,rfl,Nat.le_refl _,by omega,by simp,fun e=>absurd rfl e⟩,rfl⟩,hB⟩
  ·have h4:=g4;refine W.skip (thn_n (W.seq (W.region (L.bs0 Tryz.underlying48 kdsf6_el4 rfl (fun w5 hO5 hw hz5=>?_)))));have hB:=hB.carry hw;have hh:=hh.carry hw;refine L.val (x_mv (v:=.slice _ _ _) rfl) rfl ?_;refine L.appendNC (Bt:=1) Tryz.underlying48 kdsf6_el4 bool_bytes om_ rfl rfl rfl hO5 (by simp) hh (by intro u hu;obtain ⟨x,-,rfl⟩:=List.mem_map.1 hu;rfl) om_ om_ (fun v7 w7 hO7 hg hob7=>?_);have hB:=hB.step hg (fun i hi e=>by have h1:=(Own.lt hO5 e).1;omega);obtain ⟨a7,c7,e7,-⟩:=own_shape hO7;rw [Nat.zero_add] at e7;subst e7;refine L.val (x_as (v:=.slice _ _ _) rfl) rfl ?_;refine L.nil (thn_n (W.ret (fin_mk (.inr rfl) ?_)));simp only [Nat.zero_add,List.nil_append] at hO7;exact ⟨⟨fun n0=>bls_own hO7 p3,rfl⟩,hB⟩
end Go.Gx
namespace Go.Gx
open Go.Proofs
def armD (D:Dk) (i:Int):Dk:=if i<0 then D else { D with armed:=i.toNat }
theorem BlsAt.carryR {A R:Nat→Prop} {w w':World} {v:Value} {l:List Bool} (h:BlsAt A w v l) (g:Gr R w w') (hR:∀ k,R k→A k):BlsAt A w' v l:=h.move fun a v hA hv=>⟨g.cell hv (fun r=>hA (hR _ r)),hA⟩
theorem BlsAt.carry {A:Nat→Prop} {w w':World} {v:Value} {l:List Bool} (h:BlsAt A w v l) (g:Bel w w'):BlsAt A w' v l:=h.carryR g (fun _ f=>f.elim)
end Go.Gx
namespace Go.Gx
open Go.Proofs
structure RepC (D:Dk) (q:Pt) (all:List Str):Prop where
  ok:QOk D q
  big:tooBig all=false
  tail:q.tail=(all.map frm).flatten.length
  cnt:q.cnt=all.length
  area:allA D q=(all.map frm).flatten
  z:q.ep=0→q=pt0∧rdD D 0=zeros 64∧rdOk (rdD D 1) (roomN D.pl.length)=false
  hd:0<q.ep→rdD D (q.ep % 2)=hdrS q
  ot:0<q.ep→rdOk (rdD D ((q.ep+1) % 2)) (roomN D.pl.length)=true→(rdPt (rdD D ((q.ep+1) % 2))).ep<q.ep
  zp:ZP (roomN D.pl.length) (rdD D ((q.ep+1) % 2))
theorem hdP_repC {D:Dk} {q:Pt} {all:List Str} (h:RepC D q all) (hok:DkOk D):0<q.ep→hdP D 2=(q,true):=fun h0=>by
  have hp:=h.ok.pt hok;have e1:rdOk (hdrS q) (roomN D.pl.length)=true:=rdOk_hdr hp h.ok.half h.ok.tail;have e2:=rd_hdr hp (show q.half<256 by have:=h.ok.half;omega);have hd:=h.hd h0;have ot:=h.ot h0;show stepP _ (rdD D 1) (stepP _ (rdD D 0) (pt0,false))=_;rcases Nat.mod_two_eq_zero_or_one q.ep with h1 | h1
  · rw [h1] at hd;rw [show (q.ep+1) % 2=1 by omega] at ot;have s0:stepP (roomN D.pl.length) (rdD D 0) (pt0,false)=(q,true):=by unfold stepP;rw [hd,e1,e2];rfl
    rw [s0];unfold stepP;cases h2:rdOk (rdD D 1) (roomN D.pl.length) with
    | false=>rfl
    | true=>
      have:=ot h2;rw [decide_eq_false (show ¬ q.ep<(rdPt (rdD D 1)).ep by omega)];rfl
  · rw [h1] at hd;rw [show (q.ep+1) % 2=0 by omega] at ot;have s1:∀ x:Pt × Bool,(x.2=true→x.1.ep<q.ep)→stepP (roomN D.pl.length) (rdD D 1) x=(q,true):=fun x hx=>by
      unfold stepP;rw [hd,e1,e2];cases h3:x.2 with
      | false=>rfl
      | true=>rw [decide_eq_true (hx h3)];rfl
    refine s1 _ fun hx=>?_
    unfold stepP at hx ⊢;cases h2:rdOk (rdD D 0) (roomN D.pl.length) with
    | false=>rw [h2] at hx;cases hx
    | true=>exact ot h2
theorem open_repC {D:Dk} {q:Pt} {all:List Str} (h:RepC D q all) (hok:DkOk D):openA D=(0,q,all):=by
  have hs:=scan_frms h.big;have key:(hdP D 2).1=q∧((hdP D 2).2 || frS D 2)=true:=by
    rcases Nat.eq_zero_or_pos q.ep with h0 | h0
    · obtain ⟨e1,e2,e3⟩:=h.z h0;have hh:hdP D 2=(pt0,false):=by
        show stepP _ (rdD D 1) (stepP _ (rdD D 0) (pt0,false))=_;rw [e2];unfold stepP;rw [rdOk_zeros,e3];rfl
      rw [hh,e1];refine ⟨rfl,?_⟩;unfold frS;rw [e2,beq_self_eq_true];rfl
    · rw [hdP_repC h hok h0];exact ⟨rfl,rfl⟩
  unfold openA;rw [if_pos key.2,key.1,h.area,hs,if_pos ⟨h.tail.symm,h.cnt.symm⟩]
theorem ZP_zeros (room:Nat):ZP room (zeros 64):=ZP_torn room pt0 (m:=0) om_
theorem repC_new {m:Nat} (h:6≤m):RepC (newD m) pt0 []:=by
  have r:=rep_new h;obtain ⟨e1,e2,e3⟩:=r.z rfl;exact ⟨r.ok,rfl,rfl,rfl,rfl,fun _=>⟨rfl,e2,by rw [e3];exact rdOk_zeros _⟩,fun e=>absurd e (by decide),fun e=>absurd e (by decide),by
    show ZP _ (rdD (newD m) 1);rw [e3];exact ZP_zeros _⟩
def chk (D:Dk) (p:Pt) (at':Nat) (s:Str):List (Nat × Str):=(List.range (nck D p at' s)).map fun k=>(stN D.pl.length p.half+at' / 64+k,ckS (allS D p at' s) k)
end Go.Gx
namespace Go.Gx
open Go.Proofs
def una (D:Dk):Dk:={ D with armed:=0 }
def bt (D:Dk):Dk:={ D with dead:=false }
theorem DkOk.una {D:Dk} (h:DkOk D):DkOk (una D):=⟨h.pos,h.small,h.sec,h.cac,h.few⟩
theorem DkOk.bt {D:Dk} (h:DkOk D):DkOk (bt D):=⟨h.pos,h.small,h.sec,h.cac,h.few⟩
end Go.Gx
namespace Go.Gx
open Go.Proofs
theorem kwaf1_en21:Go.Proofs.Enters Tryz.prog 21:=Go.Proofs.enters_of Tryz.func21 kr_ rfl
theorem kwaf1_en23:Go.Proofs.Enters Tryz.prog 23:=Go.Proofs.enters_of Tryz.func23 kr_ rfl
theorem kwaf1_fo134_1:fieldOff Tryz.prog 134 1=some 4:=by kernel_rfl
theorem kwaf1_fo134_2:fieldOff Tryz.prog 134 2=some 5:=by kernel_rfl
theorem kwaf1_oc35:oneCellT Tryz.prog 35=true:=by kernel_rfl
theorem kwaf1_oc4:oneCellT Tryz.prog 4=true:=by kernel_rfl
theorem kwaf1_sz4:(Tryz.prog.info? 4).map (·.size)=some 1:=by kernel_rfl
def LogB (n0:Nat) (w:World) (bl b:Nat) (p:Pt) (br:Bool):Prop:=n0≤bl∧Box w bl 134 (logV p b br)
theorem LogB.dg {n0 n1 bl b:Nat} {w w':World} {p:Pt} {br:Bool} (h:LogB n0 w bl b p br) (g:Dg dkTy n1 w w'):LogB n0 w' bl b p br:=⟨h.1,h.2.dg g rfl⟩
theorem e190 (D:Dk):(!decide ((if D.armed=1 then (190:Int) else 0)=0))=decide (D.armed=1):=by
  by_cases h:D.armed=1
  · rw [if_pos h,decide_eq_true h];rfl
  · rw [if_neg h,decide_eq_false h];rfl
theorem Dg.logB {n0 bl b:Nat} {w w':World} {p:Pt} {br:Bool} (hl:LogB n0 w bl b p br) (g:Gr (fun k=>k=bl) w w'):Dg lgTy n0 w w':=
  Gr.mono g (fun k _ e=>by have e:k=bl:=e;rw [e];exact DkB.box hl.2 kr_ hl.1)
theorem write_lf (n0 bl b:Nat) (D:Dk) (K:Fl) (p:Pt) (i:Nat) (s:Str) (w:World) (h:DiskF n0 w b D K) (hl:LogB n0 w bl b p false) (ha:D.armed≤9223372036854775807) (hd:D.dead=false) (hi:i<D.pl.length) (hs:s.length=64) (hn:n0≤w.heap.size) (hf:D.ca.length<100000∧D.ops<1000000000):
    Ret Tryz.prog 107 #[.pointer (some ⟨bl,0,none⟩),.int .i64 (i:Nat),S s] w fun v w'=>v=.bool (!decide (D.armed=1))∧DiskF n0 w' b (wrF D K i s) (Kn D K)∧LogB n0 w' bl b p (decide (D.armed=1))∧Dg lgTy n0 w w':=by
  have hb:=hl.2;refine ret_of_W Tryz.func107 rfl (Nat.le_of_ble_eq_true rfl) (res1 rfl) ?_;refine W.seq (W.region (L.val (x_as (v:=.bool _) rfl) rfl ?_));refine L.nil (thn_n (W.seq (W.region (L.val (x_mv (v:=.pointer _) rfl) rfl ?_))));refine L.val (x_mv (v:=.pointer _) rfl) rfl ?_;refine L.val (x_nil rfl) rfl ?_;refine L.val (x_fa kwaf1_fo134_2 rfl) rfl ?_;refine L.val (x_ld (v:=.bool _) kwaf1_oc4 rfl (hb.cell0 rfl)) rfl ?_;refine L.val (x_mv (v:=.bool _) rfl) rfl ?_;refine L.splitat (dj:=12) (b:=_) rfl (fun g12=>?_) (fun g12=>?_)
  ·have h12:=g12;cases g12
  ·have h12:=g12;refine L.gyes' (dj:=12) (b:=_) rfl rfl g12 ?_;refine L.val (x_mv (v:=.pointer _) rfl) rfl ?_;refine L.gyes' (dj:=12) (b:=_) rfl rfl g12 ?_;refine L.val (x_nil rfl) rfl ?_;refine L.gyes' (dj:=12) (b:=_) rfl rfl g12 ?_;refine L.val (x_fa kwaf1_fo134_1 rfl) rfl ?_;refine L.gyes' (dj:=12) (b:=_) rfl rfl g12 ?_;refine L.val (x_ld (v:=.pointer _) kwaf1_oc35 rfl (hb.cell0 rfl)) rfl ?_;refine L.gyes' (dj:=12) (b:=_) rfl rfl g12 ?_;refine L.val (x_mv (v:=.int _ _) rfl) rfl ?_;refine L.gyes' (dj:=12) (b:=_) rfl rfl g12 ?_;refine L.val (x_mv (v:=S _) rfl) rfl ?_;refine L.gyes' (dj:=12) (b:=_) rfl rfl g12 ?_;refine L.ret (x_call kwaf1_en21 rfl) rfl (write_f n0 b D K i s _ h ha hd hi hs hn hf) ?_;rintro _ w19 ⟨rfl,hD19,hg19⟩;have hl19:=hl.dg hg19;have hb:=hl19.2;have hDg:=Dg.mono hg19 lg_of_dk;refine L.gyes' (dj:=12) (b:=_) rfl rfl g12 ?_;refine L.val (x_neq rfl rfl) rfl ?_;rw [e190];refine L.val (x_pick_f (v:=.bool _) (congrArg Value.bool g12) rfl) rfl ?_;refine L.val (x_nil rfl) rfl ?_;refine L.val (x_fa kwaf1_fo134_2 rfl) rfl ?_;refine L.set (v:=.bool _) kwaf1_sz4 rfl rfl rfl hb rfl (fun wl19 hb hw hzl19=>?_);have hDl:=hD19.log hl19.2 hl19.1 hw;have hDg:=hDg.trans (Dg.logB hl19 hw);refine L.nil (thn_n (W.seq (W.region (L.val (x_mv (v:=.pointer _) rfl) rfl ?_))));refine L.val (x_nil rfl) rfl ?_;refine L.val (x_fa kwaf1_fo134_2 rfl) rfl ?_;refine L.val (x_ld (v:=.bool _) kwaf1_oc4 rfl (hb.cell0 rfl)) rfl ?_;refine L.val (x_not rfl) rfl ?_;refine L.val (x_as (v:=.bool _) rfl) rfl ?_;refine L.nil (thn_n (W.ret (fin_mk (.inr rfl) ?_)));exact ⟨rfl,hDl,⟨hl.1,hb⟩,hDg⟩
theorem flush_lf (n0 bl b:Nat) (D:Dk) (K:Fl) (p:Pt) (w:World) (h:DiskF n0 w b D K) (hl:LogB n0 w bl b p false) (ha:D.armed≤9223372036854775807) (hd:D.dead=false) (hn:n0≤w.heap.size) (hf:D.ops<1000000000):
    Ret Tryz.prog 108 #[.pointer (some ⟨bl,0,none⟩)] w fun v w'=>v=.bool (!decide (D.armed=1))∧DiskF n0 w' b (flF D K) (Kn D K)∧LogB n0 w' bl b p (decide (D.armed=1))∧Dg lgTy n0 w w':=by
  have hb:=hl.2;refine ret_of_W Tryz.func108 rfl (Nat.le_of_ble_eq_true rfl) (res1 rfl) ?_;refine W.seq (W.region (L.val (x_as (v:=.bool _) rfl) rfl ?_));refine L.nil (thn_n (W.seq (W.region (L.val (x_mv (v:=.pointer _) rfl) rfl ?_))));refine L.val (x_mv (v:=.pointer _) rfl) rfl ?_;refine L.val (x_nil rfl) rfl ?_;refine L.val (x_fa kwaf1_fo134_2 rfl) rfl ?_;refine L.val (x_ld (v:=.bool _) kwaf1_oc4 rfl (hb.cell0 rfl)) rfl ?_;refine L.val (x_mv (v:=.bool _) rfl) rfl ?_;refine L.splitat (dj:=8) (b:=_) rfl (fun g8=>?_) (fun g8=>?_)
  ·have h8:=g8;cases g8
  ·have h8:=g8;refine L.gyes' (dj:=8) (b:=_) rfl rfl g8 ?_;refine L.val (x_mv (v:=.pointer _) rfl) rfl ?_;refine L.gyes' (dj:=8) (b:=_) rfl rfl g8 ?_;refine L.val (x_nil rfl) rfl ?_;refine L.gyes' (dj:=8) (b:=_) rfl rfl g8 ?_;refine L.val (x_fa kwaf1_fo134_1 rfl) rfl ?_;refine L.gyes' (dj:=8) (b:=_) rfl rfl g8 ?_;refine L.val (x_ld (v:=.pointer _) kwaf1_oc35 rfl (hb.cell0 rfl)) rfl ?_;refine L.gyes' (dj:=8) (b:=_) rfl rfl g8 ?_;refine L.ret (x_call kwaf1_en23 rfl) rfl (flush_f n0 b D K _ h ha hd hn hf) ?_;rintro _ w13 ⟨rfl,hD13,hg13⟩;have hl13:=hl.dg hg13;have hb:=hl13.2;have hDg:=Dg.mono hg13 lg_of_dk;refine L.gyes' (dj:=8) (b:=_) rfl rfl g8 ?_;refine L.val (x_neq rfl rfl) rfl ?_;rw [e190];refine L.val (x_pick_f (v:=.bool _) (congrArg Value.bool g8) rfl) rfl ?_;refine L.val (x_nil rfl) rfl ?_;refine L.val (x_fa kwaf1_fo134_2 rfl) rfl ?_;refine L.set (v:=.bool _) kwaf1_sz4 rfl rfl rfl hb rfl (fun wl17 hb hw hzl17=>?_);have hDl:=hD13.log hl13.2 hl13.1 hw;have hDg:=hDg.trans (Dg.logB hl13 hw);refine L.nil (thn_n (W.seq (W.region (L.val (x_mv (v:=.pointer _) rfl) rfl ?_))));refine L.val (x_nil rfl) rfl ?_;refine L.val (x_fa kwaf1_fo134_2 rfl) rfl ?_;refine L.val (x_ld (v:=.bool _) kwaf1_oc4 rfl (hb.cell0 rfl)) rfl ?_;refine L.val (x_not rfl) rfl ?_;refine L.val (x_as (v:=.bool _) rfl) rfl ?_;refine L.nil (thn_n (W.ret (fin_mk (.inr rfl) ?_)));exact ⟨rfl,hDl,⟨hl.1,hb⟩,hDg⟩
end Go.Gx
