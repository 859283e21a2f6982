/- The program's disk: Arm, Write and Flush, whatever is asked. Conditions: none. -/
import Derived.Test.YtdklfpoofgagmaaGreatQbWsc
import Derived.Test.YtdklfpoofgagmaaGreatQbDsf4
import Derived.Test.YtdklfpoofgagmaaGreatQbStoH
import Derived.Test.YtdklfpoofgagmaaGreatQbStoD
import Derived.Test.YtdklfpoofgagmaaGreatQbRowG
import Derived.Test.YtdklfpoofgagmaaGreatQbWal8
import Derived.Test.YtdklfpoofgagmaaGreatQbWal14
namespace Go.Gx
open Go.Proofs Go.Sort
theorem kwdk_ag50:aggT Tryz.prog 50 3=true:=by kernel_rfl
theorem kwdk_en51:Go.Proofs.Enters Tryz.prog 51:=Go.Proofs.enters_of Tryz.func51 kr_ rfl
theorem kwdk_en52:Go.Proofs.Enters Tryz.prog 52:=Go.Proofs.enters_of Tryz.func52 kr_ rfl
theorem kwdk_fo50_0:fieldOff Tryz.prog 50 0=some 0:=by kernel_rfl
theorem kwdk_fo50_1:fieldOff Tryz.prog 50 1=some 1:=by kernel_rfl
theorem kwdk_fo50_2:fieldOff Tryz.prog 50 2=some 2:=by kernel_rfl
theorem kwdk_fo90_2:fieldOff Tryz.prog 90 2=some 2:=by kernel_rfl
theorem kwdk_fo90_3:fieldOff Tryz.prog 90 3=some 5:=by kernel_rfl
theorem kwdk_mixed:Tryz.prog.follows .mixedOrders=true:=by kernel_rfl
theorem kwdk_oc3:oneCellT Tryz.prog 3=true:=by kernel_rfl
theorem kwdk_oc48:oneCellT Tryz.prog 48=true:=by kernel_rfl
theorem kwdk_si50:structInfo Tryz.prog 50=some ([(0,1),(1,1),(2,1)],[Value.slice none 0 0,Value.int .i64 0,Value.int .i64 0]):=by kernel_rfl
theorem kwdk_sz3:(Tryz.prog.info? 3).map (·.size)=some 1:=by kernel_rfl
theorem arm_v (n0 b:Nat) (A:Nat→Prop) (i:Int) (vk':Value) (K K':Fl) (D:Dk) (w:World) (h:DiskF n0 w b D K) (hd:D.dead=false) (hz:BlsAt A w vk' K'.keep) (hA:A b):
    Ret Tryz.prog 19 #[.pointer (some ⟨b,0,none⟩),.int .i64 i,.agg #[vk',.int .i64 K'.torn,.int .i64 K'.cut]] w fun v w'=>v=.int .i64 (if i<0 then 2 else 0)∧DiskF n0 w' b (armD D i) (if i<0 then K else K')∧Dg dkTy n0 w w':=by
  obtain ⟨h1,h2,bp,vc,vk,h3,hb,hk,hp,hc⟩:=id h;have hk:AllBl n0 w vk K.keep:=hk;obtain ⟨pk,ck,rfl,-⟩:=id hk;obtain ⟨pk',ck',rfl,-⟩:=id hz;obtain ⟨ac,cc,rfl,hcc⟩:=own_shape hc;have hbpne:bp≠b:=box_ne hp hb (by decide);have hbl:=hb.lt;have hqc:∀ j,some j=(Value.slice ac D.ca.length cc).ownBlock→j≠b∧j≠bp:=fun j hj=>⟨fun e=>own_box_ne hc hb (by decide) (e ▸ hj),fun e=>own_box_ne hc hp (by decide) (e ▸ hj)⟩
  have hr:readyD D 0=0:=by unfold readyD;rw [hd,if_neg (by decide),if_pos ⟨by omega,by have:=h2.pos;omega⟩]
  refine ret_of_W Tryz.func19 rfl (Nat.le_of_ble_eq_true rfl) (res1 rfl) ?_;have hB:=Gr.refl (fun _=>False) w;refine W.seq (W.region (L.box (cs:=[.slice pk' K'.keep.length ck',.int .i64 K'.torn,.int .i64 K'.cut]) rfl rfl (fun w5 bx5 hw hz5=>?_)));have hB:=hB.carry hw;have hb:=hb.carry hw;have hp:=hp.carry hw;have hc:=hc.carry hw;have hk:=hk.carry hw;have hz:=hz.carry hw;have hb5:=hb;refine L.val (x_as (v:=.int _ _) rfl) rfl ?_;refine L.nil (thn_n (W.seq (W.seq (W.region (L.val (x_mv (v:=.pointer _) rfl) rfl ?_)))));refine L.ret (x_call kwdk_en51 rfl) rfl (ready_d n0 b D _ _ (h.bel hB).at) ?_;rintro _ w9 ⟨rfl,hq⟩;rw [hq,hr];refine L.val (x_as (v:=.int _ _) rfl) rfl ?_;refine L.nil (thn_n (W.seq (W.region (L.val (x_mv (v:=.int _ _) rfl) rfl ?_))));refine L.val (x_neq rfl rfl) rfl ?_;refine L.nil (thn_n (W.cond (b:=_) rfl (fun g11=>?_) (fun g11=>?_)))
  ·have h11:=dne_t g11;cases g11
  ·have h11:=dne_f g11;refine W.skip (thn_n (W.seq (W.seq (W.region (L.val (x_mv (v:=.int _ _) rfl) rfl ?_)))));refine L.val (x_lss rfl rfl) rfl ?_;refine L.nil (thn_n (W.cond (b:=_) rfl (fun g14=>?_) (fun g14=>?_)))
   ·have h14:=of_decide_eq_true g14;have hneg:i<0:=h14;refine W.seq (W.region (L.val (x_as (v:=.int _ _) rfl) rfl ?_));refine L.nil (thn_n (W.ret (thn_r (fin_mk (.inr rfl) ?_))));unfold armD;rw [if_pos hneg,if_pos hneg,if_pos hneg];exact ⟨rfl,h.bel hB,Dg.of_bel hB⟩
   ·have h14:=dlt_f g14;have hneg:¬ i<0:=by omega
    have hGb:=Gr.refl (fun k=>k=b) w5;have hB5:=hB;refine W.skip (thn_n (W.seq (W.region (L.val (x_mv (v:=.pointer _) rfl) rfl ?_))));refine L.val (x_mv (v:=.int _ _) rfl) rfl ?_;refine L.val (x_nil rfl) rfl ?_;have hbo:=hb;refine L.val (x_fa kwdk_fo90_3 rfl) rfl ?_;refine L.set (v:=.int _ _) kwdk_sz3 rfl rfl rfl hb rfl (fun wl17 hb hw hzl17=>?_);have hp:=hp.carryR hw (fun e=>hbpne e);have hc:=Own.carryR hc hw (fun j hj e=>(hqc j hj).1 e);have hk:=hk.box hbo kr_ h1 hw;have hz:=hz.carryR hw (fun k e=>by have e:k=b:=e;rw [e];exact hA);have bx5:=bx5.carryR hw om_;have hGb:=hGb.trans hw;refine L.nil (thn_n (W.seq (W.drawD (fun j=>j=b∨j=b) (fun _=>False) 11 kwdk_mixed (fun wD19 hw=>?_))));have hb:=hb.carry hw;have hp:=hp.carry hw;have hc:=hc.carry hw;have hk:=hk.carry hw;have hz:=hz.carry hw;have bx5:=bx5.carry hw;have hGb:=hGb.carry hw;have hB0:=Gr.refl (fun _=>False) wD19;have hR0:=Gr.refl (fun j=>j=b∨j=b) wD19;refine LAD.take0 (i:=0) rfl kr_ kr_ kr_ kr_ (fun w hw=>x_mv (v:=.pointer _) rfl) rfl ?_;refine LAD.take0 (i:=1) rfl kr_ kr_ kr_ kr_ (fun w hw=>x_fa kwdk_fo50_0 rfl) rfl ?_;refine LAD.take0 (i:=2) rfl kr_ kr_ kr_ kr_ (fun w hw=>x_ld (v:=.slice _ _ _) kwdk_oc48 rfl (hw.keepR (fun e=>by have e:(_:Nat)=_:=e.elim id id;(try dsimp only at e);omega) (bx5.cell0 rfl))) rfl ?_;refine LAD.take0 (i:=4) rfl kr_ kr_ kr_ kr_ (fun w hw=>x_fa kwdk_fo50_1 rfl) rfl ?_;refine LAD.take0 (i:=5) rfl kr_ kr_ kr_ kr_ (fun w hw=>x_ld (v:=.int _ _) kwdk_oc3 rfl (hw.keepR (fun e=>by have e:(_:Nat)=_:=e.elim id id;(try dsimp only at e);omega) (bx5.cell0 rfl))) rfl ?_;refine LAD.take0 (i:=6) rfl kr_ kr_ kr_ kr_ (fun w hw=>x_fa kwdk_fo50_2 rfl) rfl ?_;refine LAD.take0 (i:=7) rfl kr_ kr_ kr_ kr_ (fun w hw=>x_ld (v:=.int _ _) kwdk_oc3 rfl (hw.keepR (fun e=>by have e:(_:Nat)=_:=e.elim id id;(try dsimp only at e);omega) (bx5.cell0 rfl))) rfl ?_;refine LAD.step (rs:=[3]) hR0 (fun _=>hB0) kr_ (by simp) ⟨⟨_,rfl,?_⟩,trivial⟩;refine L.ret (x_call kwdk_en52 rfl) rfl (clone_bls _ _ K'.keep _ (hz.carry hB0)) ?_;rintro v22 w22 ⟨⟨hv22,h1v⟩,hw⟩;have hB0:=hB0.carry hw;have hR0:=hR0.carry hw;have hb:=hb.carry hw;obtain ⟨p22,c22,rfl,-⟩:=id (hv22 0);refine L.nil (thn_n (LAD.take0 (i:=8) rfl kr_ kr_ kr_ kr_ (fun w hw=>x_build (cells:=[.slice _ _ _,.int _ _,.int _ _]) kwdk_si50 rfl rfl) rfl ?_));have hb22:=hb;refine LAD.take0 (i:=9) rfl kr_ kr_ kr_ kr_ (fun w hw=>x_nil rfl) rfl ?_;refine LAD.take0 (i:=10) rfl kr_ kr_ kr_ kr_ (fun w hw=>x_fa kwdk_fo90_2 rfl) rfl ?_;refine LAD.step (rs:=[11]) hR0 (fun _=>hB0) kr_ (by simp) ⟨⟨_,rfl,?_⟩,trivial⟩;refine L.setPart (o:=2) (k:=3) (new:=[.slice p22 K'.keep.length c22,.int .i64 K'.torn,.int .i64 K'.cut]) kwdk_ag50 rfl rfl hb (by show 2+3≤8;omega) rfl (by simp [Value.oneCell']) (fun wl29 hb hw hzl29=>?_);have hR0:=hR0.into hw (.inl rfl);have hkN:=(hv22 n0).box hb22 kr_ h1 hw;refine L.nil (thn_n (LAD.done kr_ kr_ hR0 ?_));have hp:=hp.carryR hR0 (fun e=>hbpne (e.elim id id));have hc:=Own.carryR hc hR0 (fun j hj e=>(hqc j hj).1 (e.elim id id));have hk:=trivial;have hz:=trivial;have bx5:=trivial;have hGb:=hGb.trans (hR0.mono (fun _ _ e=>e.elim id id));refine thn_n (W.seq (W.region (L.val (x_as (v:=.int _ _) rfl) rfl ?_)));refine L.nil (thn_n (W.ret (fin_mk (.inr rfl) ?_)));have e:((i.toNat:Nat):Int)=i:=by omega
    have e1:dkV (.slice (some ⟨bp,0,none⟩) D.pl.length D.pl.length) (.slice ac D.ca.length cc) (.slice p22 K'.keep.length c22) K'.torn K'.cut { D with armed:=i.toNat }=[.slice (some ⟨bp,0,none⟩) D.pl.length D.pl.length,.slice ac D.ca.length cc,.slice p22 K'.keep.length c22,.int .i64 K'.torn,.int .i64 K'.cut,.int .i64 i,.int .i64 (D.ops:Nat),.bool D.dead]:=by unfold dkV;dsimp only;rw [e]
    unfold armD;rw [if_neg hneg,if_neg hneg,if_neg hneg];refine ⟨rfl,⟨h1,⟨h2.pos,h2.small,h2.sec,h2.cac,h2.few⟩,bp,_,_,h3,by rw [e1];exact hb,hkN,hp,hc⟩,(Dg.of_bel hB5).trans (hGb.mono fun k _ e=>?_)⟩;have e:k=b:=e;rw [e];exact DkB.box hb5 kr_ h1
theorem readyD_dead {D:Dk} (h:D.dead=true) (i:Int):readyD D i=190:=by unfold readyD;rw [h];rfl
theorem arm_dd (n0 b:Nat) (A:Nat→Prop) (i:Int) (vk':Value) (K':Fl) (D:Dk) (w:World) (h:DiskAt n0 w b D) (hd:D.dead=true) (hz:BlsAt A w vk' K'.keep):
    Ret Tryz.prog 19 #[.pointer (some ⟨b,0,none⟩),.int .i64 i,.agg #[vk',.int .i64 K'.torn,.int .i64 K'.cut]] w fun v w'=>v=.int .i64 190∧Bel w w':=by
  obtain ⟨pk',ck',rfl,-⟩:=id hz;refine ret_of_W Tryz.func19 rfl (Nat.le_of_ble_eq_true rfl) (res1 rfl) ?_;have hB:=Gr.refl (fun _=>False) w;refine W.seq (W.region (L.box (cs:=[.slice pk' K'.keep.length ck',.int .i64 K'.torn,.int .i64 K'.cut]) rfl rfl (fun w5 bx5 hw hz5=>?_)));have hB:=hB.carry hw;refine L.val (x_as (v:=.int _ _) rfl) rfl ?_;refine L.nil (thn_n (W.seq (W.seq (W.region (L.val (x_mv (v:=.pointer _) rfl) rfl ?_)))));refine L.ret (x_call kwdk_en51 rfl) rfl (ready_d n0 b D _ _ (h.carry hB)) ?_;rintro _ w9 ⟨rfl,hq⟩;rw [hq,readyD_dead hd];refine L.val (x_as (v:=.int _ _) rfl) rfl ?_;refine L.nil (thn_n (W.seq (W.region (L.val (x_mv (v:=.int _ _) rfl) rfl ?_))));refine L.val (x_neq rfl rfl) rfl ?_;refine L.nil (thn_n (W.cond (b:=_) rfl (fun g11=>?_) (fun g11=>?_)))
  ·have h11:=dne_t g11;refine W.seq (W.region (L.val (x_mv (v:=.int _ _) rfl) rfl ?_));refine L.val (x_as (v:=.int _ _) rfl) rfl ?_;refine L.nil (thn_n (W.ret (thn_r (fin_mk (.inr rfl) ?_))));exact ⟨rfl,hB⟩
  ·have h11:=dne_f g11;cases g11
theorem arm_g (n0 b:Nat) (A:Nat→Prop) (i:Int) (vk':Value) (K K':Fl) (D:Dk) (w:World) (h:DiskF n0 w b D K) (hz:BlsAt A w vk' K'.keep) (hA:A b):
    Ret Tryz.prog 19 #[.pointer (some ⟨b,0,none⟩),.int .i64 i,.agg #[vk',.int .i64 K'.torn,.int .i64 K'.cut]] w fun v w'=>v=.int .i64 (arE D i)∧DiskF n0 w' b (arG D i) (arK D i K K')∧Dg dkTy n0 w w':=by
  unfold arE arG arK;by_cases hd:D.dead=true
  · rw [if_pos hd,if_pos hd,if_pos hd];exact (arm_dd n0 b A i vk' K' D w h.at hd hz).mono fun v w' ⟨h1,h2⟩=>⟨h1,h.bel h2,Dg.of_bel h2⟩
  · rw [if_neg hd,if_neg hd,if_neg hd];refine (arm_v n0 b A i vk' K K' D w h (by simpa using hd) hz hA).mono fun v w' ⟨h1,h2,h3⟩=>⟨h1,?_,h3⟩
    exact h2
theorem write_n (n0 b:Nat) (D:Dk) (i:Int) (s:Str) (w:World) (h:DiskAt n0 w b D) (hr:readyD D i≠0):
    Ret Tryz.prog 21 #[.pointer (some ⟨b,0,none⟩),.int .i64 i,S s] w fun v w'=>v=.int .i64 (readyD D i)∧w'=w:=by
  refine ret_of_W Tryz.func21 rfl (Nat.le_of_ble_eq_true rfl) (res1 rfl) ?_;refine W.seq (W.region (L.val (x_as (v:=.int _ _) rfl) rfl ?_));refine L.nil (thn_n (W.seq (W.seq (W.region (L.val (x_mv (v:=.pointer _) rfl) rfl ?_)))));refine L.val (x_mv (v:=.int _ _) rfl) rfl ?_;refine L.ret (x_call kwdk_en51 rfl) rfl (ready_d n0 b D _ _ h) ?_;rintro _ w11 ⟨rfl,hq⟩;rw [hq];refine L.val (x_as (v:=.int _ _) rfl) rfl ?_;refine L.nil (thn_n (W.seq (W.region (L.val (x_mv (v:=.int _ _) rfl) rfl ?_))));refine L.val (x_neq rfl rfl) rfl ?_;refine L.nil (thn_n (W.cond (b:=_) rfl (fun g13=>?_) (fun g13=>?_)))
  ·have h13:=dne_t g13;refine W.seq (W.region (L.val (x_mv (v:=.int _ _) rfl) rfl ?_));refine L.val (x_as (v:=.int _ _) rfl) rfl ?_;refine L.nil (thn_n (W.ret (thn_r (fin_mk (.inr rfl) ?_))));exact ⟨rfl,rfl⟩
  ·have h13:=dne_f g13;exact absurd (by simpa using h13) hr
theorem write_g (n0 b:Nat) (D:Dk) (K:Fl) (i:Int) (s:Str) (w:World) (h:DiskF n0 w b D K) (ha:D.armed≤9223372036854775807) (hs:s.length=64) (hn:n0≤w.heap.size) (hf:D.ca.length<100000∧D.ops<1000000000):
    Ret Tryz.prog 21 #[.pointer (some ⟨b,0,none⟩),.int .i64 i,S s] w fun v w'=>v=.int .i64 (wrE D i s)∧(∃ K2,DiskF n0 w' b (wrG D K i s) K2∧((wrG D K i s).dead=false→K2=K))∧Dg dkTy n0 w w':=by
  unfold wrE wrG;by_cases hd:D.dead=true
  · rw [if_pos hd,if_pos hd];refine (write_n n0 b D i s w h.at (by rw [readyD_dead hd];decide)).mono fun v w' ⟨h1,h2⟩=>?_
    rw [readyD_dead hd] at h1;subst h2;exact ⟨h1,⟨K,h,fun _=>rfl⟩,Gr.refl _ _⟩
  · rw [if_neg hd,if_neg hd];have hd:D.dead=false:=by simpa using hd
    by_cases hi:i<0∨(D.pl.length:Nat)≤i
    · rw [if_pos hi,if_pos hi];have hr:readyD D i=191:=by unfold readyD;rw [hd,if_neg (by decide),if_neg om_]
      refine (write_n n0 b D i s w h.at (by rw [hr];decide)).mono fun v w' ⟨h1,h2⟩=>?_
      rw [hr] at h1;subst h2;exact ⟨h1,⟨K,h,fun _=>rfl⟩,Gr.refl _ _⟩
    · have h64:¬ s.length≠64:=by omega
      rw [if_neg hi,if_neg hi,if_neg h64,if_neg h64];have e:((i.toNat:Nat):Int)=i:=by omega
      have hw:=write_f n0 b D K i.toNat s w h ha hd om_ hs hn hf;rw [e] at hw;refine hw.mono fun v w' ⟨h1,h2,h3⟩=>⟨h1,⟨_,h2,fun he=>?_⟩,h3⟩
      rw [wrF_dead hd] at he;unfold Kn;rw [if_neg (by simpa using he)]
theorem flush_n (n0 b:Nat) (D:Dk) (w:World) (h:DiskAt n0 w b D) (hd:D.dead=true):
    Ret Tryz.prog 23 #[.pointer (some ⟨b,0,none⟩)] w fun v w'=>v=.int .i64 190∧w'=w:=by
  refine ret_of_W Tryz.func23 rfl (Nat.le_of_ble_eq_true rfl) (res1 rfl) ?_;refine W.seq (W.region (L.val (x_as (v:=.int _ _) rfl) rfl ?_));refine L.nil (thn_n (W.seq (W.seq (W.region (L.val (x_mv (v:=.pointer _) rfl) rfl ?_)))));refine L.ret (x_call kwdk_en51 rfl) rfl (ready_d n0 b D _ _ h) ?_;rintro _ w7 ⟨rfl,hq⟩;rw [hq,readyD_dead hd];refine L.val (x_as (v:=.int _ _) rfl) rfl ?_;refine L.nil (thn_n (W.seq (W.region (L.val (x_mv (v:=.int _ _) rfl) rfl ?_))));refine L.val (x_neq rfl rfl) rfl ?_;refine L.nil (thn_n (W.cond (b:=_) rfl (fun g9=>?_) (fun g9=>?_)))
  ·have h9:=dne_t g9;refine W.seq (W.region (L.val (x_mv (v:=.int _ _) rfl) rfl ?_));refine L.val (x_as (v:=.int _ _) rfl) rfl ?_;refine L.nil (thn_n (W.ret (thn_r (fin_mk (.inr rfl) ?_))));exact ⟨rfl,rfl⟩
  ·have h9:=dne_f g9;cases g9
theorem flush_g (n0 b:Nat) (D:Dk) (K:Fl) (w:World) (h:DiskF n0 w b D K) (ha:D.armed≤9223372036854775807) (hn:n0≤w.heap.size) (hf:D.ca.length<100000∧D.ops<1000000000):
    Ret Tryz.prog 23 #[.pointer (some ⟨b,0,none⟩)] w fun v w'=>v=.int .i64 (flE D)∧(∃ K2,DiskF n0 w' b (flG D K) K2∧((flG D K).dead=false→K2=K))∧Dg dkTy n0 w w':=by
  unfold flE flG;by_cases hd:D.dead=true
  · rw [if_pos hd,if_pos hd];refine (flush_n n0 b D w h.at hd).mono fun v w' ⟨h1,h2⟩=>?_
    subst h2;exact ⟨h1,⟨K,h,fun _=>rfl⟩,Gr.refl _ _⟩
  · rw [if_neg hd,if_neg hd];have hd:D.dead=false:=by simpa using hd
    refine (flush_f n0 b D K w h ha hd hn hf.2).mono fun v w' ⟨h1,h2,h3⟩=>⟨h1,⟨_,h2,fun he=>?_⟩,h3⟩
    rw [flF_dead hd] at he;unfold Kn;rw [if_neg (by simpa using he)]
end Go.Gx
namespace Go.Gx
open Go.Proofs Go.Sort
theorem kwim_el5:elT Tryz.prog 5 1=true:=by kernel_rfl
theorem kwim_el92:elT Tryz.prog 92 64=true:=by kernel_rfl
theorem kwim_en57:Go.Proofs.Enters Tryz.prog 57:=Go.Proofs.enters_of Tryz.func57 kr_ rfl
theorem kwim_en58:Go.Proofs.Enters Tryz.prog 58:=Go.Proofs.enters_of Tryz.func58 kr_ rfl
theorem kwim_fo90_0:fieldOff Tryz.prog 90 0=some 0:=by kernel_rfl
theorem kwim_fo90_1:fieldOff Tryz.prog 90 1=some 1:=by kernel_rfl
theorem kwim_oc87:oneCellT Tryz.prog 87=true:=by kernel_rfl
theorem kwim_oc88:oneCellT Tryz.prog 88=true:=by kernel_rfl
theorem kwim_sz5:(Tryz.prog.info? 5).map (·.size)=some 1:=by kernel_rfl
theorem kwim_sz92:(Tryz.prog.info? 92).map (·.size)=some 64:=by kernel_rfl
theorem sector_bytes:(Tryz.prog.info? 92).map (fun i=>decide (i.bytes≤64))=some true:=by kernel_rfl
theorem plV_ones (pl:List Str):∀ u∈plV pl,u.oneCell'=true:=fun u hu=>by
  unfold plV at hu;rw [List.mem_flatten] at hu;obtain ⟨r,hr,hu⟩:=hu;obtain ⟨s,hs,rfl⟩:=List.mem_map.1 hr;exact B8_one _ u hu
theorem clone_sec (bp:Nat) (pl:List Str) (w:World) (hsec:∀ s∈pl,s.length=64) (hl:pl.length≤4096) (hb:Box w bp 92 (plV pl)):
    Ret Tryz.prog 58 #[.slice (some ⟨bp,0,none⟩) pl.length pl.length] w fun v w'=>(∃ a c,v=.slice a pl.length c∧Own w' w.heap.size 92 64 v pl.length (plV pl))∧Bel w w':=by
  have hpl:=plV_len hsec;have hh:HoldsN w (.slice (some ⟨bp,0,none⟩) pl.length pl.length) pl.length (plV pl):=.inl ⟨⟨bp,0,none⟩,pl.length,rfl,fun j u hu=>by
    rw [show (⟨bp,0,none⟩:Addr).add j=⟨bp,0+j,none⟩ by simp [Addr.add];exact fun e=>e.symm];exact hb.cell (i:=0+j) (by rw [Nat.zero_add];exact hu)⟩
  refine ret_of_W Tryz.func58 rfl (Nat.le_of_ble_eq_true rfl) (res1 rfl) ?_;have hB:=Gr.refl (fun _=>False) w;refine W.seq (W.region (L.val (x_as (v:=.slice _ _ _) rfl) rfl ?_));refine L.nil (thn_n (W.seq (W.seq (W.region (L.val (x_mv (v:=.slice _ _ _) rfl) rfl ?_)))));refine L.val (x_eql0 Tryz.underlying87 rfl rfl) rfl ?_;refine L.nil (thn_n (W.cond (b:=_) rfl (fun g4=>?_) (fun g4=>?_)))
  ·have h4:=g4;cases g4
  ·have h4:=g4;refine W.skip (thn_n (W.seq (W.region (L.bs0 Tryz.underlying87 kwim_el92 rfl (fun w5 hO5 hw hz5=>?_)))));have hB:=hB.carry hw;have hh:=hh.carry hw;refine L.val (x_mv (v:=.slice _ _ _) rfl) rfl ?_;refine L.appendNC (Bt:=64) Tryz.underlying87 kwim_el92 sector_bytes om_ rfl rfl rfl hO5 hpl hh (plV_ones pl) om_ om_ (fun v7 w7 hO7 hg hob7=>?_);have hB:=hB.step hg (fun i hi e=>by have h1:=(Own.lt hO5 e).1;omega);obtain ⟨a7,c7,e7,-⟩:=own_shape hO7;rw [Nat.zero_add] at e7;subst e7;refine L.val (x_as (v:=.slice _ _ _) rfl) rfl ?_;refine L.nil (thn_n (W.ret (fin_mk (.inr rfl) ?_)));simp only [Nat.zero_add,List.nil_append] at hO7;exact ⟨⟨a7,c7,rfl,hO7⟩,hB⟩
theorem flat64 {pl:List Str} (h:∀ s∈pl,s.length=64) (k:Nat) (hk:k≤pl.length):((pl.take k).flatten).length=64 * k:=by
  rw [List.length_flatten];have:(pl.take k).map List.length=List.replicate k 64:=by
    rw [List.eq_replicate_iff];refine ⟨by rw [List.length_map,List.length_take];omega,fun x hx=>?_⟩;obtain ⟨s,hs,rfl⟩:=List.mem_map.1 hx;exact h s (List.mem_of_mem_take hs)
  rw [this];clear this hk;induction k with
  | zero=>rfl
  | succ k ih=>rw [List.replicate_succ,List.sum_cons,ih];omega
theorem image_p (n0 b:Nat) (D:Dk) (w:World) (h:DiskAt n0 w b D) (hca:D.ca=[]):Ret Tryz.prog 25 #[.pointer (some ⟨b,0,none⟩)] w fun v w'=>v=S D.pl.flatten∧Bel w w':=by
  obtain ⟨h1,h2,bp,vc,vk,tn,ct,h3,hb,h5,hp,hc⟩:=id h;obtain ⟨ac,cc,rfl,hcc⟩:=own_shape hc;have hcl:D.ca.length=0:=by rw [hca];rfl
  rw [hcl] at hb;have hsm:=h2.small;have hpos:=h2.pos;have hsec:=h2.sec;have hfl:=flat64 hsec;refine ret_of_W Tryz.func25 rfl (Nat.le_of_ble_eq_true rfl) (res1 rfl) ?_;have hB:=Gr.refl (fun _=>False) w;refine W.seq (W.region (L.val (x_as (v:=S _) rfl) rfl ?_));refine L.nil (thn_n (W.seq (W.seq (W.region (L.val (x_mv (v:=.pointer _) rfl) rfl ?_)))));refine L.ret (x_call kwim_en57 rfl) rfl (none_d n0 b D _ h) ?_;rintro _ w9 ⟨rfl,hq⟩;rw [hq];refine L.nil (thn_n (W.cond (b:=_) rfl (fun g9=>?_) (fun g9=>?_)))
  ·have h9:=g9;cases g9
  ·have h9:=g9;refine W.skip (thn_n (W.seq (W.region (L.val (x_mv (v:=.pointer _) rfl) rfl ?_))));refine L.val (x_nil rfl) rfl ?_;refine L.val (x_fa kwim_fo90_0 rfl) rfl ?_;refine L.val (x_ld (v:=.slice _ _ _) kwim_oc87 rfl (hb.cell0 rfl)) rfl ?_;refine L.ret (x_call kwim_en58 rfl) rfl (clone_sec bp D.pl _ hsec hsm hp) ?_;rintro _ w14 ⟨⟨a14,c14,rfl,hO14⟩,hw⟩;have hB:=hB.carry hw;have hb:=hb.carry hw;have hp:=hp.carry hw;have hw14:=hB.size;have hO14x:=hO14;refine L.val (x_as (v:=.slice _ _ _) rfl) rfl ?_;refine L.nil (thn_n (W.seq (W.seq (W.region (L.val (x_mv (v:=.pointer _) rfl) rfl ?_)))));refine L.val (x_nil rfl) rfl ?_;refine L.val (x_fa kwim_fo90_1 rfl) rfl ?_;refine L.val (x_ld (v:=.slice _ _ _) kwim_oc88 rfl (hb.cell0 rfl)) rfl ?_;refine L.val (x_len_slice Tryz.underlying88 rfl) rfl ?_;refine L.val (x_mv (v:=.int _ _) rfl) rfl ?_;refine L.nil (thn_n (W.block (W.loop (fun m' E w'=>∃ (z:Nat),m'=z∧E 0=.pointer (some ⟨b,0,none⟩)∧E 3=.slice a14 D.pl.length c14∧E 18=.slice ac 0 cc∧E 19=.int .i64 0∧E 20=.int .i64 0∧(w'=w14)) (0) ?_ ?_)))
   ·exact ⟨0,by omega,vi_,vi_,vi_,vi_,vi_,ao_⟩
   ·rintro _ E wL21 ⟨z,em,e0,e3,e18,e19,e20,hw0⟩;rw [upd_self e0,upd_self e3,upd_self e18,upd_self e19,upd_self e20];refine W.seq (W.region ?_);rw [hw0];refine L.val (x_lss rfl rfl) rfl ?_;refine L.nil (thn_n (W.seq (W.cond (b:=_) rfl (fun g21=>?_) (fun g21=>?_))))
    ·have h21:=of_decide_eq_true g21;exact absurd h21 om_
    ·have h21:=dlt_f g21;refine W.exit (thn_x (thn_x (blk_hit ?_)));refine thn_n (W.seq (W.region (L.val (x_mv (v:=.slice _ _ _) rfl) rfl ?_)));refine L.val (x_len_slice Tryz.underlying87 rfl) rfl ?_;refine L.val (x_mul (c:=((D.pl.length * 64:Nat):Int)) rfl rfl (by rw [wr64 om_];omega)) rfl ?_;refine L.mkkc (z:=.int .u8 0) 0 (D.pl.length * 64) Tryz.underlying59 kwim_el5 kr_ rfl rfl rfl om_ om_ rfl (fun w34 bx34 hO34 hw hz34=>?_);have hB:=hB.carry hw;have hb:=hb.carry hw;have hp:=hp.carry hw;have hO14:=hO14.carry hw;have hO34:=own_base hO34 (base':=w14.heap.size) (Nat.le_refl _);have hge:w14.heap.size≤w34.heap.size:=hw.size;refine L.val (x_as (v:=.slice _ _ _) rfl) rfl ?_;refine L.nil (thn_n (W.seq (W.seq (W.region (L.val (x_mv (v:=.slice _ _ _) rfl) rfl ?_)))));refine L.val (x_len_slice Tryz.underlying87 rfl) rfl ?_;refine L.val (x_mv (v:=.int _ _) rfl) rfl ?_;refine L.nil (thn_n (W.block (W.loop (fun m' E w'=>∃ (k:Nat) (vo:Value),m'=D.pl.length - k∧E 3=.slice a14 D.pl.length c14∧E 6=vo∧E 36=.int .i64 (D.pl.length:Nat)∧E 37=.int .i64 (k:Nat)∧(k≤D.pl.length)∧(Bel w w')∧(Own w' w.heap.size 92 64 (.slice a14 D.pl.length c14) D.pl.length (plV D.pl))∧(Own w' w14.heap.size 5 1 vo (64 * k) ((D.pl.take k).flatten.map B8))∧(Ge w14.heap.size w')) (D.pl.length) ?_ ?_)))
     ·exact ⟨0,_,by omega,vi_,vi_,vi_,vi_,ao_,ao_,ao_,(by exact hO34),(by exact hge)⟩
     ·rintro _ E wL38 ⟨k,vo,em,e3,e6,e36,e37,hk,hB,hO14,hO,hge⟩;rw [upd_self e3,upd_self e6,upd_self e36,upd_self e37];refine W.seq (W.region ?_);obtain ⟨av,cv,ev,-⟩:=own_shape hO;subst ev;have hql:=fun j hj=>Own.lt hO (j:=j) hj
      have hqs:=fun j hj=>Own.lt hO14 (j:=j) hj
      refine L.val (x_lss rfl rfl) rfl ?_;refine L.nil (thn_n (W.seq (W.cond (b:=_) rfl (fun g38=>?_) (fun g38=>?_))))
      ·have h38:=of_decide_eq_true g38;have hlt:k<D.pl.length:=by omega
       obtain ⟨b14,rfl⟩:=own_pos hO14 om_;have hb14:=hqs b14 rfl;have hb14':b14<w14.heap.size:=(Own.lt hO14x rfl).2;have hcell:∀ m,m<64→wL38.cell? ⟨b14,0+k * 64+m,none⟩=((D.pl.getD k []).map B8)[m]? := by
         rcases Own.open hO14 with ⟨e1,-⟩ | ⟨b',cap,tl,e1,-,-,-,hbx⟩
         · cases e1
         · cases e1;intro m hm;have hg:(D.pl.map fun s=>s.map B8).getD k []=(D.pl.getD k []).map B8:=by
             rw [List.getD_eq_getElem?_getD,List.getD_eq_getElem?_getD,List.getElem?_map,List.getElem?_eq_getElem hlt];rfl
           have hl:((D.pl.getD k []).map B8).length=64:=by
             rw [List.length_map];exact hsec _ (by rw [List.getD_eq_getElem?_getD,List.getElem?_eq_getElem hlt];exact List.getElem_mem hlt)
           rw [List.getElem?_eq_getElem om_];exact hbx.cell (rowcK (tl:=tl) (plV_lens hsec) (i:=k) (j:=m) (by rw [List.length_map];exact hlt) hm (by rw [hg];exact List.getElem?_eq_getElem om_))
       have hl64:(D.pl.getD k []).length=64:=hsec _ (by rw [List.getD_eq_getElem?_getD,List.getElem?_eq_getElem hlt];exact List.getElem_mem hlt);refine W.skip (thn_n (W.seq (W.block (W.seq (W.region (L.val (x_mv (v:=.int _ _) rfl) rfl ?_))))));refine L.val (x_as (v:=.int _ _) rfl) rfl ?_;refine L.nil (thn_n (W.region (L.val (x_mv (v:=.slice _ _ _) rfl) rfl ?_)));refine L.val (x_mv (v:=.slice _ _ _) rfl) rfl ?_;refine L.val (x_mv (v:=.int _ _) rfl) rfl ?_;refine L.val (x_ia (j:=k) Tryz.underlying87 kwim_sz92 rfl rfl om_ om_) rfl ?_;refine L.val (x_slArr Tryz.underlying92 kwim_sz5 rfl rfl) rfl ?_;refine L.appendN (m:=64) Tryz.underlying59 kwim_el5 rfl rfl rfl hO (by rw [List.length_map,hl64]) (.inl ⟨⟨b14,0+k * 64,none⟩,64,rfl,fun m u hu=>by have hm:=(List.getElem?_eq_some_iff.1 hu).1;rw [List.length_map,hl64] at hm;have:=hcell m hm;rw [hu] at this;rw [show (⟨b14,0+k * 64,none⟩:Addr).add m=⟨b14,0+k * 64+m,none⟩ by simp [Addr.add]];exact this⟩) (B8_one _) om_ (by exact hge) (fun v45 w45 hO45 hg hob45=>?_);have hB:=hB.step hg (fun i hi e=>by have:=(hql i e).1;have:=hw14;omega);have hO14:=Own.carryR hO14 hg (fun j hj e=>by have e1:=(hql j e).1;have e2:j=b14:=(by cases hj;rfl);omega)
       have hge2:=hge.carryR hg;obtain ⟨a45,c45,e45,-⟩:=own_shape hO45;subst e45;have hO2:Own w45 w14.heap.size 5 1 (.slice a45 (64 * k+64) c45) (64 * (k+1)) ((D.pl.take (k+1)).flatten.map B8):=by
         have e1:(D.pl.take (k+1)).flatten=(D.pl.take k).flatten++D.pl.getD k []:=by
           rw [take_snoc (d:=[]) hlt,List.flatten_append];simp
         rw [e1,List.map_append];exact hO45
       refine L.val (x_as (v:=.slice _ _ _) rfl) rfl ?_;refine L.nil (blk_n (thn_n (W.region (L.val (x_add rfl rfl (wr64 om_)) rfl ?_))));refine L.val (x_mv (v:=.int _ _) rfl) rfl ?_;refine L.nil (thn_n ⟨rfl,?_⟩);refine ⟨_,?_,k+1,_,rfl,vi_,vi_,vi_,vi_,ao_,ao_,ao_,(by exact hO2),(by exact hge2)⟩;omega
      ·have h38:=dlt_f g38;have hkn:k=D.pl.length:=by omega
       subst hkn;rw [List.take_length] at hO;have hfll:=hfl D.pl.length (Nat.le_refl _);rw [List.take_length] at hfll;obtain ⟨q,hq⟩:∃ q,64 * D.pl.length=q+1:=⟨64 * D.pl.length - 1,by omega⟩;rw [hq] at hO ⊢;obtain ⟨b4,c4,e4⟩:=own_form hO;cases e4;refine W.exit (thn_x (thn_x (blk_hit ?_)));refine thn_n (W.seq (W.region (L.val (x_mv (v:=.slice _ _ _) rfl) rfl ?_)));refine L.val (x_b2s (l:=D.pl.flatten) Tryz.underlying59 Tryz.underlying5 Tryz.underlying9 rfl om_ (own_cells hO)) rfl ?_;refine L.val (x_as (v:=S _) rfl) rfl ?_;refine L.nil (thn_n (W.ret (fin_mk (.inr rfl) ?_)));exact ⟨rfl,hB⟩
end Go.Gx
namespace Go.Gx
open Go.Proofs Go.Sort
theorem comes_len:∀ (l G:List Ed),(comes G l).length≤G.length+l.length
  | [],G=>Nat.le_add_right _ _
  | e :: l,G=>by
    have h1:∀ (G:List Ed),(come1 G e).length≤G.length+1:=fun G=>by
      induction G with
      | nil=>rw [come1];split <;> simp
      | cons x G ih=>
        rw [come1];split
        · simp only [List.length_cons];omega
        · rw [List.length_append];split <;> split <;> simp only [List.length_cons,List.length_nil] <;> omega
    have h2:=comes_len l (come1 G e);have:=h1 G;have e1:comes G (e :: l)=comes (come1 G e) l:=rfl;rw [e1,List.length_cons];omega
structure Calm (n0:Nat) (w:World) (b bs bl:Nat) (D:Dk) (K:Fl) (q:Pt) (G:List Ed) (c:Nat):Prop where
  disk:DiskF n0 w b D K
  log:LogB n0 w bl b q false
  sto:StoAt n0 w bs bl G
  rep:SRep (una D) q G c
  arm:D.armed=0
  live:D.dead=false
theorem Calm.carry {n0:Nat} {w w':World} {b bs bl:Nat} {D:Dk} {K:Fl} {q:Pt} {G:List Ed} {c:Nat} (h:Calm n0 w b bs bl D K q G c) (g:Bel w w'):Calm n0 w' b bs bl D K q G c:=⟨h.disk.bel g,h.log.bel g,h.sto.carry g,h.rep,h.arm,h.live⟩
def ab1:List Ed:=[⟨[98],[50],false⟩,⟨[97],[49],false⟩]
def ab2:List Ed:=[⟨[98],[],true⟩]
def ab3:List Ed:=[⟨[],[],false⟩]
def aG1:List Ed:=[⟨[97],[49],false⟩,⟨[98],[50],false⟩]
def aG2:List Ed:=[⟨[97],[49],false⟩]
theorem aG1c:comes [] ab1=aG1:=by decide +kernel
theorem aG2c:comes aG1 ab2=aG2:=by decide +kernel
end Go.Gx
namespace Go.Gx
open Go.Proofs Go.Sort
def NoS (w:World) (p:Option Addr):Prop:=p=none∨∃ b,p=some ⟨b,0,none⟩∧Box w b 100 [.map none,.pointer none]
theorem NoS.carry {w w':World} {p:Option Addr} (h:NoS w p) (g:Bel w w'):NoS w' p:=by
  rcases h with h | ⟨b,h1,h2⟩
  · exact .inl h
  · exact .inr ⟨b,h1,h2.carry g⟩
end Go.Gx
namespace Go.Gx
open Go.Proofs Go.Sort
theorem kstol_fo52_1:fieldOff Tryz.prog 52 1=some 1:=by kernel_rfl
theorem kstol_fo70_0:fieldOff Tryz.prog 70 0=some 0:=by kernel_rfl
theorem kstol_fo70_1:fieldOff Tryz.prog 70 1=some 1:=by kernel_rfl
theorem kstol_mixed:Tryz.prog.follows .mixedOrders=true:=by kernel_rfl
theorem kstol_oc31:oneCellT Tryz.prog 31=true:=by kernel_rfl
theorem kstol_oc9:oneCellT Tryz.prog 9=true:=by kernel_rfl
theorem kstol_sz52:(Tryz.prog.info? 52).map (·.size)=some 7:=by kernel_rfl
theorem kstol_sz70:(Tryz.prog.info? 70).map (·.size)=some 3:=by kernel_rfl
def costE (l:List Ed):Nat:=(l.map fun e=>min e.key.length 10000+min e.val.length 30000+10).sum
def costS (l:List Sa):Nat:=(l.map fun a=>200+costE a.eds).sum
def fewS (l:List Sa):Bool:=decide (costS l≤60000)
theorem costE_take {l:List Ed} {k:Nat} (h:k<l.length):costE (l.take (k+1))=costE (l.take k)+(min (l.getD k default).key.length 10000+min (l.getD k default).val.length 30000+10):=by
  unfold costE;rw [take_snoc (d:=default) h,List.map_append,List.sum_append];simp
theorem costS_take {l:List Sa} {k:Nat} (h:k<l.length):costS (l.take (k+1))=costS (l.take k)+(200+costE (l.getD k default).eds):=by
  unfold costS;rw [take_snoc (d:=default) h,List.map_append,List.sum_append];simp
theorem costE_le (l:List Ed) (k:Nat):costE (l.take k)≤costE l:=by
  unfold costE;conv=>rhs;rw [← List.take_append_drop k l,List.map_append,List.sum_append]
  omega
theorem costS_le (l:List Sa) (k:Nat):costS (l.take k)≤costS l:=by
  unfold costS;conv=>rhs;rw [← List.take_append_drop k l,List.map_append,List.sum_append]
  omega
theorem costS_len (l:List Sa):200 * l.length≤costS l:=by
  unfold costS;induction l with
  | nil=>exact Nat.le_refl _
  | cons a l ih=>simp only [List.map_cons,List.sum_cons,List.length_cons];omega
theorem costE_len (l:List Ed):10 * l.length≤costE l:=by
  unfold costE;induction l with
  | nil=>exact Nat.le_refl _
  | cons a l ih=>simp only [List.map_cons,List.sum_cons,List.length_cons];omega
theorem costE_siz {l:List Ed} (h:mayL l=true):sizG l≤3 * costE l:=by
  unfold costE sizG;unfold mayL at h;induction l with
  | nil=>exact Nat.le_refl _
  | cons e l ih=>
    rw [List.all_cons,Bool.and_eq_true] at h;have:=mayE_len h.1;have ih:=ih h.2;simp only [List.map_cons,List.sum_cons];omega
theorem sas_elem {A:Nat→Prop} {w:World} {p:Option Addr} {n cap:Nat} {l:List Sa} (h:SasAt A w (.slice p n cap) l) {i:Nat} (hi:i<l.length):∃ b o pe ce pk ck,p=some ⟨b,o,none⟩∧EdsAt A w (.slice pe (l.getD i default).eds.length ce) (l.getD i default).eds∧BlsAt A w (.slice pk (l.getD i default).keep.length ck) (l.getD i default).keep∧(l.getD i default).at'≤9223372036854775807∧
    ∀ j,j<7→w.cell? ⟨b,o+i * 7+j,none⟩=(saV (l.getD i default) (.slice pe (l.getD i default).eds.length ce) (.slice pk (l.getD i default).keep.length ck))[j]? := by
  obtain ⟨p',cap',row,e,-,-,-,hR⟩:=h;cases e;obtain ⟨b,o,hp,hA,hc⟩:=hR.elem hi;obtain ⟨ve,vk,hrow,hs,hk,ha⟩:=hR.each i hi;obtain ⟨pe,ce,re,rfl,-⟩:=id hs;obtain ⟨pk,ck,rfl,-⟩:=id hk;exact ⟨b,o,pe,ce,pk,ck,hp,hs,hk,ha,fun j hj=>by rw [hc j hj,hrow]⟩
theorem few23 (A:Nat→Prop) (v:Value) (l:List Sa) (w:World) (h:SasAt A w v l):Ret Tryz.prog 12 #[v] w fun v w'=>v=.bool (fewS l)∧Bel w w':=by
  obtain ⟨pv,cv,row,rfl,-,-,hln,-⟩:=id h;refine ret_of_W Tryz.func12 rfl (Nat.le_of_ble_eq_true rfl) (res1 rfl) ?_;have hB:=Gr.refl (fun _=>False) w;refine W.seq (W.region (L.val (x_as (v:=.bool _) rfl) rfl ?_));refine L.nil (thn_n (W.seq (W.region (L.val (x_as (v:=.int _ _) rfl) rfl ?_))));refine L.nil (thn_n (W.seq (W.seq (W.region (L.val (x_as (v:=.int _ _) rfl) rfl ?_)))));refine L.nil (thn_n (W.block (W.loop (fun m' E w'=>∃ (i:Nat),m'=l.length - i∧E 0=.slice pv l.length cv∧E 3=.int .i64 (costS (l.take i):Nat)∧E 4=.int .i64 (i:Nat)∧(i≤l.length)∧(costS (l.take i)≤60000)∧(Bel w w')∧(SasAt A w' (.slice pv l.length cv) l)) (l.length) ?_ ?_)))
  ·exact ⟨0,by omega,by first | rfl | exact vi om_ | exact vs (by first | assumption | (rw [hst];done) | (rw [hst];simp only [List.append_assoc])),by first | rfl | exact vi om_ | exact vs (by first | assumption | (rw [hst];done) | (rw [hst];simp only [List.append_assoc])),by first | rfl | exact vi om_ | exact vs (by first | assumption | (rw [hst];done) | (rw [hst];simp only [List.append_assoc])),ao_,(by simp [costS]),ao_,ao_⟩
  ·rintro _ E wL6 ⟨i,em,e0,e3,e4,hi,hq,hB,h⟩;rw [upd_self e0,upd_self e3,upd_self e4];refine W.seq (W.seq (W.region (L.val (x_mv (v:=.int _ _) rfl) rfl ?_)));refine L.val (x_mv (v:=.slice _ _ _) rfl) rfl ?_;refine L.val (x_len_slice Tryz.underlying44 rfl) rfl ?_;refine L.val (x_lss rfl rfl) rfl ?_;refine L.nil (thn_n (W.cond (b:=_) rfl (fun g9=>?_) (fun g9=>?_)))
   ·have h9:=of_decide_eq_true g9;have hlt:i<l.length:=by omega
    have hst:=costS_take hlt;have hle:=costS_le l (i+1);refine W.skip (thn_n (W.seq (W.block (W.seq (W.region (L.val (x_mv (v:=.int _ _) rfl) rfl ?_))))));refine L.val (x_add rfl rfl (wr64 om_)) rfl ?_;refine L.val (x_as (v:=.int _ _) rfl) rfl ?_;refine L.nil (thn_n (W.seq (W.seq (W.region (L.val (x_as (v:=.int _ _) rfl) rfl ?_)))));refine L.nil (thn_n (W.block (W.loop (fun m' E w'=>∃ (j:Nat),m'=(l.getD i default).eds.length - j∧E 0=.slice pv l.length cv∧E 3=.int .i64 (costS (l.take i)+200+costE ((l.getD i default).eds.take j):Nat)∧E 4=.int .i64 (i:Nat)∧E 5=.int .i64 (j:Nat)∧(j≤(l.getD i default).eds.length)∧(costE ((l.getD i default).eds.take j)≤60000)∧(Bel w w')∧(SasAt A w' (.slice pv l.length cv) l)) ((l.getD i default).eds.length) ?_ ?_)))
    ·exact ⟨0,by omega,by first | rfl | exact vi om_ | exact vs (by first | assumption | (rw [hst];done) | (rw [hst];simp only [List.append_assoc])),by first | rfl | exact vi om_ | exact vs (by first | assumption | (rw [hst];done) | (rw [hst];simp only [List.append_assoc])),by first | rfl | exact vi om_ | exact vs (by first | assumption | (rw [hst];done) | (rw [hst];simp only [List.append_assoc])),by first | rfl | exact vi om_ | exact vs (by first | assumption | (rw [hst];done) | (rw [hst];simp only [List.append_assoc])),ao_,(by simp [costE]),ao_,ao_⟩
    ·rintro _ E wL14 ⟨j,em,e0,e3,e4,e5,hj,hqj,hB,h⟩;rw [upd_self e0,upd_self e3,upd_self e4,upd_self e5];refine W.seq (W.seq (W.region ?_));obtain ⟨b,o,pb,cb,pk,ck,ep,hs,-,-,hc⟩:=sas_elem h hlt;have hcb:=hc 1 om_;refine L.val (x_mv (v:=.int _ _) rfl) rfl ?_;refine L.val (x_mv (v:=.slice _ _ _) rfl) rfl ?_;refine L.val (x_mv (v:=.int _ _) rfl) rfl ?_;refine L.val (x_ia (j:=i) Tryz.underlying44 kstol_sz52 (by show Value.slice pv _ _=_;rw [ep]) rfl om_ om_) rfl ?_;refine L.val (x_fa kstol_fo52_1 rfl) rfl ?_;refine L.val (x_ld (v:=.slice _ _ _) kstol_oc31 rfl hcb) rfl ?_;refine L.val (x_len_slice Tryz.underlying31 rfl) rfl ?_;refine L.val (x_lss rfl rfl) rfl ?_;refine L.nil (thn_n (W.cond (b:=_) rfl (fun g21=>?_) (fun g21=>?_)))
     ·have h21:=of_decide_eq_true g21;have hltj:j<(l.getD i default).eds.length:=by omega
      obtain ⟨hek,bj,oj,rfl,-,hcj⟩:=eds_elem hs hltj;have hcj0:=hcj 0 om_;have hcj1:=hcj 1 om_;have hstj:=costE_take hltj;have hlej:=costE_le (l.getD i default).eds (j+1);have hek1:=hek.1;have hek2:=hek.2;subst ep;obtain ⟨_,_,_,-,-,-,hel,-⟩:=id hs;refine W.skip (thn_n (W.seq (W.block (W.seq (W.drawF 27 kstol_mixed (fun wF24 hB0=>?_))))));refine LAC.takeN (i:=0) rfl kr_ kr_ kr_ kr_ (fun w hw=>x_mv (v:=.int _ _) rfl) rfl ?_;refine LAC.takeN (i:=1) rfl kr_ kr_ kr_ kr_ (fun w hw=>x_mv (v:=.slice _ _ _) rfl) rfl ?_;refine LAC.takeN (i:=2) rfl kr_ kr_ kr_ kr_ (fun w hw=>x_mv (v:=.int _ _) rfl) rfl ?_;refine LAC.takeN (i:=3) rfl kr_ kr_ kr_ kr_ (fun w hw=>x_ia (j:=i) Tryz.underlying44 kstol_sz52 rfl rfl om_ om_) rfl ?_;refine LAC.takeN (i:=4) rfl kr_ kr_ kr_ kr_ (fun w hw=>x_fa kstol_fo52_1 rfl) rfl ?_;refine LAC.takeN (i:=5) rfl kr_ kr_ kr_ kr_ (fun w hw=>x_ld (v:=.slice _ _ _) kstol_oc31 rfl (hw.keep hcb)) rfl ?_;refine LAC.takeN (i:=6) rfl kr_ kr_ kr_ kr_ (fun w hw=>x_mv (v:=.int _ _) rfl) rfl ?_;refine LAC.takeN (i:=7) rfl kr_ kr_ kr_ kr_ (fun w hw=>x_ia (j:=j) Tryz.underlying31 kstol_sz70 rfl rfl om_ om_) rfl ?_;refine LAC.takeN (i:=8) rfl kr_ kr_ kr_ kr_ (fun w hw=>x_fa kstol_fo70_0 rfl) rfl ?_;refine LAC.takeN (i:=9) rfl kr_ kr_ kr_ kr_ (fun w hw=>x_ld (v:=S _) kstol_oc9 rfl (hw.keep hcj0)) rfl ?_;refine LAC.takeN (i:=10) rfl kr_ kr_ kr_ kr_ (fun w hw=>x_len_str Tryz.underlying9 rfl) rfl ?_;refine LAC.takeN (i:=12) rfl kr_ kr_ kr_ kr_ (fun w hw=>x_mv (v:=.slice _ _ _) rfl) rfl ?_;refine LAC.takeN (i:=13) rfl kr_ kr_ kr_ kr_ (fun w hw=>x_mv (v:=.int _ _) rfl) rfl ?_;refine LAC.takeN (i:=14) rfl kr_ kr_ kr_ kr_ (fun w hw=>x_ia (j:=i) Tryz.underlying44 kstol_sz52 rfl rfl om_ om_) rfl ?_;refine LAC.takeN (i:=15) rfl kr_ kr_ kr_ kr_ (fun w hw=>x_fa kstol_fo52_1 rfl) rfl ?_;refine LAC.takeN (i:=16) rfl kr_ kr_ kr_ kr_ (fun w hw=>x_ld (v:=.slice _ _ _) kstol_oc31 rfl (hw.keep hcb)) rfl ?_;refine LAC.takeN (i:=17) rfl kr_ kr_ kr_ kr_ (fun w hw=>x_mv (v:=.int _ _) rfl) rfl ?_;refine LAC.takeN (i:=18) rfl kr_ kr_ kr_ kr_ (fun w hw=>x_ia (j:=j) Tryz.underlying31 kstol_sz70 rfl rfl om_ om_) rfl ?_;refine LAC.takeN (i:=19) rfl kr_ kr_ kr_ kr_ (fun w hw=>x_fa kstol_fo70_1 rfl) rfl ?_;refine LAC.takeN (i:=20) rfl kr_ kr_ kr_ kr_ (fun w hw=>x_ld (v:=S _) kstol_oc9 rfl (hw.keep hcj1)) rfl ?_;refine LAC.takeN (i:=21) rfl kr_ kr_ kr_ kr_ (fun w hw=>x_len_str Tryz.underlying9 rfl) rfl ?_;refine LAC.step (rs:=[11,22]) (fun _=>hB0) kr_ (by simp) ⟨⟨_,rfl,?_⟩,⟨_,rfl,?_⟩,trivial⟩
      ·refine L.val (x_min rfl rfl) rfl ?_;refine L.nil (thn_n (LAC.step (rs:=[22]) (fun _=>hB0) kr_ (by simp) ⟨⟨_,rfl,?_⟩,trivial⟩));refine L.val (x_min rfl rfl) rfl ?_;refine L.nil (thn_n (LAC.takeN (i:=23) rfl kr_ kr_ kr_ kr_ (fun w hw=>x_add rfl rfl (wr64 om_)) rfl ?_));refine LAC.takeN (i:=24) rfl kr_ kr_ kr_ kr_ (fun w hw=>x_add rfl rfl (wr64 om_)) rfl ?_;refine LAC.takeN (i:=25) rfl kr_ kr_ kr_ kr_ (fun w hw=>x_add rfl rfl (wr64 om_)) rfl ?_;refine LAC.takeN (i:=26) rfl kr_ kr_ kr_ kr_ (fun w hw=>x_as (v:=.int _ _) rfl) rfl ?_;refine LAC.doneF kr_ hB0 ?_;have hB:=hB.carry hB0;have h:=h.carry hB0;refine thn_n (W.seq (W.region (L.val (x_mv (v:=.int _ _) rfl) rfl ?_)));refine L.val (x_gtr rfl rfl) rfl ?_;refine L.nil (thn_n (W.cond (b:=_) rfl (fun g51=>?_) (fun g51=>?_)))
       ·have h51:=of_decide_eq_true g51;have hf:fewS l=false:=decide_eq_false om_;refine W.seq (W.region (L.val (x_as (v:=.bool _) rfl) rfl ?_));refine L.nil (thn_n (W.ret (blk_r (thn_r (thn_r (blk_r (thn_r (blk_r (thn_r (thn_r (blk_r (thn_r (fin_mk (.inr rfl) ?_)))))))))))));rw [hf];exact ⟨rfl,hB⟩
       ·have h51:=dlt_f g51;refine W.skip (blk_n (thn_n (W.region (L.val (x_mv (v:=.int _ _) rfl) rfl ?_))));refine L.val (x_add rfl rfl (wr64 om_)) rfl ?_;refine L.val (x_as (v:=.int _ _) rfl) rfl ?_;refine L.nil (thn_n ⟨rfl,?_⟩);refine ⟨_,?_,j+1,rfl,by first | rfl | exact vi om_ | exact vs (by first | assumption | (rw [hst];done) | (rw [hst];simp only [List.append_assoc])),by first | rfl | exact vi om_ | exact vs (by first | assumption | (rw [hst];done) | (rw [hst];simp only [List.append_assoc])),by first | rfl | exact vi om_ | exact vs (by first | assumption | (rw [hst];done) | (rw [hst];simp only [List.append_assoc])),by first | rfl | exact vi om_ | exact vs (by first | assumption | (rw [hst];done) | (rw [hst];simp only [List.append_assoc])),ao_,ao_,ao_,ao_⟩;omega
      ·refine L.val (x_min rfl rfl) rfl ?_;refine L.nil (thn_n (LAC.step (rs:=[11]) (fun _=>hB0) kr_ (by simp) ⟨⟨_,rfl,?_⟩,trivial⟩));refine L.val (x_min rfl rfl) rfl ?_;refine L.nil (thn_n (LAC.takeN (i:=23) rfl kr_ kr_ kr_ kr_ (fun w hw=>x_add rfl rfl (wr64 om_)) rfl ?_));refine LAC.takeN (i:=24) rfl kr_ kr_ kr_ kr_ (fun w hw=>x_add rfl rfl (wr64 om_)) rfl ?_;refine LAC.takeN (i:=25) rfl kr_ kr_ kr_ kr_ (fun w hw=>x_add rfl rfl (wr64 om_)) rfl ?_;refine LAC.takeN (i:=26) rfl kr_ kr_ kr_ kr_ (fun w hw=>x_as (v:=.int _ _) rfl) rfl ?_;refine LAC.doneF kr_ hB0 ?_;have hB:=hB.carry hB0;have h:=h.carry hB0;refine thn_n (W.seq (W.region (L.val (x_mv (v:=.int _ _) rfl) rfl ?_)));refine L.val (x_gtr rfl rfl) rfl ?_;refine L.nil (thn_n (W.cond (b:=_) rfl (fun g51=>?_) (fun g51=>?_)))
       ·have h51:=of_decide_eq_true g51;have hf:fewS l=false:=decide_eq_false om_;refine W.seq (W.region (L.val (x_as (v:=.bool _) rfl) rfl ?_));refine L.nil (thn_n (W.ret (blk_r (thn_r (thn_r (blk_r (thn_r (blk_r (thn_r (thn_r (blk_r (thn_r (fin_mk (.inr rfl) ?_)))))))))))));rw [hf];exact ⟨rfl,hB⟩
       ·have h51:=dlt_f g51;refine W.skip (blk_n (thn_n (W.region (L.val (x_mv (v:=.int _ _) rfl) rfl ?_))));refine L.val (x_add rfl rfl (wr64 om_)) rfl ?_;refine L.val (x_as (v:=.int _ _) rfl) rfl ?_;refine L.nil (thn_n ⟨rfl,?_⟩);refine ⟨_,?_,j+1,rfl,by first | rfl | exact vi om_ | exact vs (by first | assumption | (rw [hst];done) | (rw [hst];simp only [List.append_assoc])),by first | rfl | exact vi om_ | exact vs (by first | assumption | (rw [hst];done) | (rw [hst];simp only [List.append_assoc])),by first | rfl | exact vi om_ | exact vs (by first | assumption | (rw [hst];done) | (rw [hst];simp only [List.append_assoc])),by first | rfl | exact vi om_ | exact vs (by first | assumption | (rw [hst];done) | (rw [hst];simp only [List.append_assoc])),ao_,ao_,ao_,ao_⟩;omega
     ·have h21:=dlt_f g21;have hje:j=(l.getD i default).eds.length:=by omega
      subst hje;rw [List.take_length] at *;refine W.exit (thn_x (thn_x (blk_hit ?_)));refine thn_n (W.seq (W.region (L.val (x_mv (v:=.int _ _) rfl) rfl ?_)));refine L.val (x_gtr rfl rfl) rfl ?_;refine L.nil (thn_n (W.cond (b:=_) rfl (fun g53=>?_) (fun g53=>?_)))
      ·have h53:=of_decide_eq_true g53;have hf:fewS l=false:=decide_eq_false om_;refine W.seq (W.region (L.val (x_as (v:=.bool _) rfl) rfl ?_));refine L.nil (thn_n (W.ret (blk_r (thn_r (thn_r (blk_r (thn_r (fin_mk (.inr rfl) ?_))))))));rw [hf];exact ⟨rfl,hB⟩
      ·have h53:=dlt_f g53;refine W.skip (blk_n (thn_n (W.region (L.val (x_mv (v:=.int _ _) rfl) rfl ?_))));refine L.val (x_add rfl rfl (wr64 om_)) rfl ?_;refine L.val (x_as (v:=.int _ _) rfl) rfl ?_;refine L.nil (thn_n ⟨rfl,?_⟩);refine ⟨_,?_,i+1,rfl,by first | rfl | exact vi om_ | exact vs (by first | assumption | (rw [hst];done) | (rw [hst];simp only [List.append_assoc])),by first | rfl | exact vi om_ | exact vs (by first | assumption | (rw [hst];done) | (rw [hst];simp only [List.append_assoc])),by first | rfl | exact vi om_ | exact vs (by first | assumption | (rw [hst];done) | (rw [hst];simp only [List.append_assoc])),ao_,ao_,ao_,ao_⟩;omega
   ·have h9:=dlt_f g9;have hie:i=l.length:=by omega
    subst hie;rw [List.take_length] at hq;have hf:fewS l=true:=decide_eq_true hq;refine W.exit (thn_x (thn_x (blk_hit ?_)));refine thn_n (W.seq (W.region (L.val (x_as (v:=.bool _) rfl) rfl ?_)));refine L.nil (thn_n (W.ret (fin_mk (.inr rfl) ?_)));rw [hf];exact ⟨rfl,hB⟩
def secM (n:Int):Nat:=6+(n.tmod 90+90).toNat % 90
theorem secM_le (n:Int):6≤secM n∧secM n≤95:=by unfold secM;omega
theorem sectors23 (n:Int) (w:World):Ret Tryz.prog 14 #[.int .i64 n] w fun v w'=>v=.int .i64 (secM n:Nat)∧w'=w:=by
  have h1:=Int.tmod_lt_of_pos n (show (0:Int)<90 by decide);have h2:-90<n.tmod 90:=by have:=Int.lt_tmod_of_pos n (show (0:Int)<90 by decide);omega
  have h3:(n.tmod 90+90).tmod 90=(((n.tmod 90+90).toNat % 90:Nat):Int):=by
    rw [Int.tmod_eq_emod_of_nonneg om_];omega
  generalize hz:n.tmod 90=z at *;refine ret_of_W Tryz.func14 rfl (Nat.le_of_ble_eq_true rfl) (res1 rfl) ?_;refine W.seq (W.region (L.val (x_as (v:=.int _ _) rfl) rfl ?_));refine L.nil (thn_n (W.seq (W.region (L.val (x_mv (v:=.int _ _) rfl) rfl ?_))));refine L.val (x_tmod (c:=z) rfl rfl (by decide) hz) rfl ?_;refine L.val (x_add rfl rfl (wr64 om_)) rfl ?_;refine L.val (x_tmod rfl rfl (by decide) h3) rfl ?_;refine L.val (x_add rfl rfl (wr64 om_)) rfl ?_;refine L.val (x_as (v:=.int _ _) rfl) rfl ?_;refine L.nil (thn_n (W.ret (fin_mk (.inr rfl) ?_)));refine ⟨?_,rfl⟩;have e:((secM n:Nat):Int)=6+(((z+90).toNat % 90:Nat):Int):=by unfold secM;rw [hz];omega
  rw [e];rfl
end Go.Gx
