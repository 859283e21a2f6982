/- A transaction read; edits done. Conditions: none. -/
import Derived.Test.YtdklfpoofgagmaaGreatQbStoB
import Derived.Test.YtdklfpoofgagmaaGreatQbWal14
namespace Go.Gx
open Go.Proofs Go.Sort
theorem kstod_ag70:aggT Tryz.prog 70 3=true:=by kernel_rfl
theorem kstod_fo70_0:fieldOff Tryz.prog 70 0=some 0:=by kernel_rfl
theorem kstod_fo70_1:fieldOff Tryz.prog 70 1=some 1:=by kernel_rfl
theorem kstod_fo70_2:fieldOff Tryz.prog 70 2=some 2:=by kernel_rfl
theorem kstod_fo97_0:fieldOff Tryz.prog 97 0=some 0:=by kernel_rfl
theorem kstod_mixed:Tryz.prog.follows .mixedOrders=true:=by kernel_rfl
theorem kstod_oc4:oneCellT Tryz.prog 4=true:=by kernel_rfl
theorem kstod_oc9:oneCellT Tryz.prog 9=true:=by kernel_rfl
theorem kstod_oc95:oneCellT Tryz.prog 95=true:=by kernel_rfl
theorem kstod_sz70:(Tryz.prog.info? 70).map (·.size)=some 3:=by kernel_rfl
theorem kstod_sz95:(Tryz.prog.info? 95).map (·.size)=some 1:=by kernel_rfl
theorem kstod_zr70:(Tryz.prog.info? 70).bind (·.zero)=some (Value.agg [S [],S [],Value.bool false].toArray):=by kernel_rfl
theorem may_ok_eds {l:List Ed} (h:mayL l=true):∀ e∈l,EdOk e:=fun e he=>by
  unfold mayL at h;have:=mayE_len (List.all_eq_true.1 h e he);exact ⟨by omega,by omega⟩
theorem Gr.step2 {R R':Nat→Prop} {a b c:World} (h:Gr R a b) (k:Gr R' b c) (hR:∀ i,i<a.heap.size→R' i→R i):Gr R a c:=
  ⟨k.os.trans h.os,k.tape.trans h.tape,k.output.trans h.output,Nat.le_trans h.size k.size,fun i hi hn=>(k.block i (Nat.lt_of_lt_of_le hi h.size) (fun r=>hn (hR i hi r))).trans (h.block i hi hn)⟩
theorem rises_take {G l:List Ed} (h:Rises G):Rises (comes G l):=comes_rises h
theorem apply_ok (n0:Nat) (A:Nat→Prop) (b:Nat) (T:TypeId) (rest:List Value) (m:Option Nat) (G:List Ed) (v:Value) (l:List Ed) (w:World) (hb:Box w b T (.map m :: rest)) (hm:MapHas n0 w m G) (hG:Rises G) (hs:EdsAt A w v l) (hAb:A b) (hAm:∀ k,m=some k→A k) (hn:n0≤w.heap.size):
    Ret Tryz.prog 43 #[.pointer (some ⟨b,0,none⟩),v] w fun _ w'=>∃ mb lm,Box w' b T (.map (some mb) :: rest)∧n0≤mb∧HoldsM w' mb lm (comes G l)∧(m=some mb∨m=none∧w.heap.size≤mb)∧Gr (fun k=>k=b∨some k=m) w w':=by
  have hs:=(hs.up);obtain ⟨pv,cv,row,rfl,a1,a2,a3,-⟩:=id hs;have hbl:=hb.lt;refine ret_of_W Tryz.func43 rfl (Nat.le_of_ble_eq_true rfl) (res0 rfl) ?_;have hR:=Gr.refl (fun k=>k=b∨some k=m) w;refine W.cut (fun D' E' w'=>D'=[]∧∃ mb lm,E' 0=.pointer (some ⟨b,0,none⟩)∧E' 1=.slice pv l.length cv∧Box w' b T (.map (some mb) :: rest)∧n0≤mb∧HoldsM w' mb lm G∧(m=some mb∨m=none∧w.heap.size≤mb)∧EdsAt (fun k=>A k∨w.heap.size≤k) w' (.slice pv l.length cv) l∧Gr (fun k=>k=b∨some k=m) w w') ?_ ?_
  ·refine W.seq (W.region (L.val (x_mv (v:=.pointer _) rfl) rfl ?_));refine L.val (x_nil rfl) rfl ?_;refine L.val (x_fa kstod_fo97_0 rfl) rfl ?_;refine L.val (x_ld (v:=.map _) kstod_oc95 rfl (hb.cell0 rfl)) rfl ?_;refine L.val (x_eqm0 Tryz.underlying95 rfl rfl) rfl ?_;refine L.nil (thn_n (W.cond (b:=_) rfl (fun g10=>?_) (fun g10=>?_)))
   ·have h10:=g10;have hm0:m=none:=by cases m with | none=>rfl | some k=>cases g10
    subst hm0;have hG0:G=[]:=by rcases hm with h | ⟨mb,l',h,-⟩;exact h.2;cases h
    refine W.region (L.val (x_mv (v:=.pointer _) rfl) rfl ?_);refine L.mkmapK (κ := Str) (K:=S) (V:=fun _=>True) Tryz.underlying95 rfl (fun w12 mp12 hw hz12=>?_);have hR:=hR.carry hw;have hs:=hs.carry hw;have hb:=hb.carry hw;refine L.val (x_nil rfl) rfl ?_;refine L.val (x_fa kstod_fo97_0 rfl) rfl ?_;refine L.set (v:=.map _) kstod_sz95 rfl rfl rfl hb rfl (fun wl10 hb hw hzl10=>?_);have hR:=(by first | exact hR.set hw om_ | exact hR.trans (hw.mono (fun k _ e=>.inl e)));have hs:=(by first | exact hs.carryR hw (fun k e=>.inr (by have e:k=wL18.heap.size:=e;omega)) | exact hs.carryR hw (fun k e=>.inl (by have e:k=b:=e;rw [e];exact hAb)));have mp12:=mp12.carryR hw (fun e=>by have e:w.heap.size=b:=e;omega);refine L.nil (thn_n ?_);exact ⟨rfl,w.heap.size,[],rfl,rfl,hb,hn,by rw [hG0];exact HoldsM.nil mp12,.inr ⟨rfl,Nat.le_refl _⟩,hs,hR⟩
   ·have h10:=g10;obtain ⟨mb0,hm0⟩:∃ mb,m=some mb:=by cases m with | none=>cases g10 | some k=>exact ⟨k,rfl⟩
    subst hm0;obtain ⟨l00,hn00,hH00⟩:∃ lm,n0≤mb0∧HoldsM w mb0 lm G:=by rcases hm with h | ⟨mb,l',h,h2,h3⟩;cases h.1;cases h;exact ⟨l',h2,h3⟩
    refine W.skip (thn_n ?_);exact ⟨rfl,mb0,l00,rfl,rfl,hb,hn00,hH00,.inl rfl,hs,hR⟩
  ·rintro D' E w15 ⟨rfl,mb,lm0,e0,e1,hb,hnmb,hH,hmm,hs,hR⟩;rw [upd_self e0,upd_self e1];have hAmb:A mb∨w.heap.size≤mb:=hmm.imp (fun e=>hAm _ e) (fun e=>e.2);have hbm:b≠mb:=fun e=>by
     obtain ⟨es,ck,hes,-⟩:=hH.map;have hbx:=hb;unfold Box at hbx;rw [e,hes] at hbx;cases hbx
   have hRm:∀ k,k<w.heap.size→k=mb→(k=b∨some k=m):=fun k hk e=>by
     rcases hmm with h | h
     · rw [e,h];exact .inr rfl
     · omega
   refine W.seq (W.region (L.val (x_mv (v:=.slice _ _ _) rfl) rfl ?_));refine L.val (x_len_slice Tryz.underlying31 rfl) rfl ?_;refine L.val (x_mv (v:=.int _ _) rfl) rfl ?_;refine L.nil (thn_n (W.block (W.loop (fun m' E w'=>∃ (i:Nat) (lm:List (Str × Value)),m'=l.length - i∧E 0=.pointer (some ⟨b,0,none⟩)∧E 15=.slice pv l.length cv∧E 16=.int .i64 (l.length:Nat)∧E 17=.int .i64 (i:Nat)∧(i≤l.length)∧(Gr (fun k=>k=b∨some k=m) w w')∧(EdsAt (fun k=>A k∨w.heap.size≤k) w' (.slice pv l.length cv) l)∧(Box w' b T (.map (some mb) :: rest))∧(HoldsM w' mb lm (comes G (l.take i)))) (l.length) ?_ ?_)))
   ·exact ⟨0,lm0,by omega,by first | rfl | exact vi om_ | exact vs (by first | assumption | (rw [hst];done) | (rw [hst];simp only [List.append_assoc])),by first | rfl | exact vi om_ | exact vs (by first | assumption | (rw [hst];done) | (rw [hst];simp only [List.append_assoc])),by first | rfl | exact vi om_ | exact vs (by first | assumption | (rw [hst];done) | (rw [hst];simp only [List.append_assoc])),by first | rfl | exact vi om_ | exact vs (by first | assumption | (rw [hst];done) | (rw [hst];simp only [List.append_assoc])),ao_,ao_,ao_,ao_,(by exact hH)⟩
   ·rintro _ E wL18 ⟨i,lm,em,e0,e15,e16,e17,hi,hR,hs,hb,hH⟩;rw [upd_self e0,upd_self e15,upd_self e16,upd_self e17];refine W.seq (W.region (L.val (x_lss rfl rfl) rfl ?_));refine L.nil (thn_n (W.seq (W.cond (b:=_) rfl (fun g18=>?_) (fun g18=>?_))))
    ·have h18:=of_decide_eq_true g18;have hlt:i<l.length:=by omega
     obtain ⟨hek,be,oe,rfl,-,hc⟩:=eds_elem hs hlt;have hst:comes G (l.take (i+1))=come1 (comes G (l.take i)) (l.getD i default):=by rw [take_snoc (d:=default) hlt,come1_snoc]
     have hGi:=rises_take (l:=l.take i) hG;have hmlt:=hH.map.lt;have hblt:=hb.lt;have hRs:w.heap.size≤wL18.heap.size:=hR.size;refine W.skip (thn_n (W.seq (W.block (W.seq (W.region (L.val (x_ia (j:=i) Tryz.underlying31 kstod_sz70 rfl rfl om_ om_) rfl ?_))))));refine L.val (x_ldn (vs:=edV (l.getD i default)) kstod_ag70 rfl rfl hc) rfl ?_;refine L.alloc (cs:=[S [],S [],Value.bool false]) kstod_zr70 rfl rfl (fun w5 bx5 hw hz5=>?_);have hR:=hR.carry hw;have hs:=hs.carry hw;have hb:=hb.carry hw;have hH:=hH.carry hw;refine L.setRow kstod_ag70 rfl rfl bx5 rfl rfl (edV_one _) (fun wl18 bx5 hw hzl18=>?_);have hR:=(by first | exact hR.set hw om_ | exact hR.trans (hw.mono (fun k _ e=>.inl e)));have hs:=(by first | exact hs.carryR hw (fun k e=>.inr (by have e:k=wL18.heap.size:=e;omega)) | exact hs.carryR hw (fun k e=>.inl (by have e:k=b:=e;rw [e];exact hAb)));have hb:=hb.carryR hw om_;have hH:=hH.carryR hw (fun e=>by have e:mb=wL18.heap.size:=e;omega);refine L.nil (thn_n (W.seq (W.region (L.val (x_fa kstod_fo70_2 rfl) rfl ?_))));refine L.val (x_ld (v:=.bool _) kstod_oc4 rfl (bx5.cell0 rfl)) rfl ?_;refine L.nil (thn_n (W.cond (b:=_) rfl (fun g22=>?_) (fun g22=>?_)))
     ·have h22:=g22;refine W.drawD (fun j=>j=mb) (fun _=>False) 6 kstod_mixed (fun wD23 hw=>?_);have hR:=hR.carry hw;have hs:=hs.carry hw;have hb:=hb.carry hw;have hH:=hH.carry hw;have bx5:=bx5.carry hw;have hB0:=Gr.refl (fun _=>False) wD23;have hR0:=Gr.refl (fun j=>j=mb) wD23;refine LAD.take0 (i:=0) rfl kr_ kr_ kr_ kr_ (fun w hw=>x_mv (v:=.pointer _) rfl) rfl ?_;refine LAD.take0 (i:=1) rfl kr_ kr_ kr_ kr_ (fun w hw=>x_nil rfl) rfl ?_;refine LAD.take0 (i:=2) rfl kr_ kr_ kr_ kr_ (fun w hw=>x_fa kstod_fo97_0 rfl) rfl ?_;refine LAD.take0 (i:=3) rfl kr_ kr_ kr_ kr_ (fun w hw=>x_ld (v:=.map _) kstod_oc95 rfl (hw.keepR (fun e=>by have e:(_:Nat)=_:=e;(try dsimp only at e);omega) (hb.cell0 rfl))) rfl ?_;refine LAD.take0 (i:=4) rfl kr_ kr_ kr_ kr_ (fun w hw=>x_fa kstod_fo70_0 rfl) rfl ?_;refine LAD.take0 (i:=5) rfl kr_ kr_ kr_ kr_ (fun w hw=>x_ld (v:=S _) kstod_oc9 rfl (hw.keepR (fun e=>by have e:(_:Nat)=_:=e;(try dsimp only at e);omega) (bx5.cell0 rfl))) rfl ?_;refine LAD.step (rs:=[6]) hR0 (fun _=>hB0) kr_ (by simp) ⟨⟨_,rfl,?_⟩,trivial⟩;refine L.mapdelK Tryz.underlying95 (klawS Tryz.underlying9) rfl rfl trivial hH.map (fun wl27 mp27 hw hzl27=>?_);have hR0:=hR0.intoR hw (fun k e=>e);have hH2:HoldsM wl27 mb (delK lm (l.getD i default).key) (comes G (l.take (i+1))):=by rw [hst];exact hH.del hGi g22 mp27
      have hR2:=hR.step2 hw (fun k hk e=>hRm k hk e);refine L.nil (thn_n (LAD.done kr_ kr_ hR0 ?_));have hR:=trivial;have hs:=hs.carryR hR0 (fun k e=>by have e:k=mb:=e;rw [e];exact hAmb);have hb:=hb.carryR hR0 (fun e=>by have e:b=mb:=e;exact hbm e);have bx5:=trivial;refine blk_n (thn_n (W.region (L.val (x_add rfl rfl (wr64 om_)) rfl ?_)));refine L.val (x_mv (v:=.int _ _) rfl) rfl ?_;refine L.nil (thn_n ⟨rfl,?_⟩);refine ⟨_,?_,i+1,_,rfl,by first | rfl | exact vi om_ | exact vs (by first | assumption | (rw [hst];done) | (rw [hst];simp only [List.append_assoc])),by first | rfl | exact vi om_ | exact vs (by first | assumption | (rw [hst];done) | (rw [hst];simp only [List.append_assoc])),by first | rfl | exact vi om_ | exact vs (by first | assumption | (rw [hst];done) | (rw [hst];simp only [List.append_assoc])),by first | rfl | exact vi om_ | exact vs (by first | assumption | (rw [hst];done) | (rw [hst];simp only [List.append_assoc])),ao_,(by exact hR2),ao_,ao_,(by exact hH2)⟩;omega
     ·have h22:=g22;refine W.drawD (fun j=>j=mb) (fun _=>False) 8 kstod_mixed (fun wD29 hw=>?_);have hR:=hR.carry hw;have hs:=hs.carry hw;have hb:=hb.carry hw;have hH:=hH.carry hw;have bx5:=bx5.carry hw;have hB0:=Gr.refl (fun _=>False) wD29;have hR0:=Gr.refl (fun j=>j=mb) wD29;refine LAD.take0 (i:=0) rfl kr_ kr_ kr_ kr_ (fun w hw=>x_mv (v:=.pointer _) rfl) rfl ?_;refine LAD.take0 (i:=1) rfl kr_ kr_ kr_ kr_ (fun w hw=>x_nil rfl) rfl ?_;refine LAD.take0 (i:=2) rfl kr_ kr_ kr_ kr_ (fun w hw=>x_fa kstod_fo97_0 rfl) rfl ?_;refine LAD.take0 (i:=3) rfl kr_ kr_ kr_ kr_ (fun w hw=>x_ld (v:=.map _) kstod_oc95 rfl (hw.keepR (fun e=>by have e:(_:Nat)=_:=e;(try dsimp only at e);omega) (hb.cell0 rfl))) rfl ?_;refine LAD.take0 (i:=4) rfl kr_ kr_ kr_ kr_ (fun w hw=>x_fa kstod_fo70_0 rfl) rfl ?_;refine LAD.take0 (i:=5) rfl kr_ kr_ kr_ kr_ (fun w hw=>x_ld (v:=S _) kstod_oc9 rfl (hw.keepR (fun e=>by have e:(_:Nat)=_:=e;(try dsimp only at e);omega) (bx5.cell0 rfl))) rfl ?_;refine LAD.take0 (i:=6) rfl kr_ kr_ kr_ kr_ (fun w hw=>x_fa kstod_fo70_1 rfl) rfl ?_;refine LAD.take0 (i:=7) rfl kr_ kr_ kr_ kr_ (fun w hw=>x_ld (v:=S _) kstod_oc9 rfl (hw.keepR (fun e=>by have e:(_:Nat)=_:=e;(try dsimp only at e);omega) (bx5.cell0 rfl))) rfl ?_;refine LAD.step (rs:=[8]) hR0 (fun _=>hB0) kr_ (by simp) ⟨⟨_,rfl,?_⟩,trivial⟩;refine L.mapsetK Tryz.underlying95 (klawS Tryz.underlying9) rfl rfl trivial rfl hH.map (fun wl36 mp36 hw hzl36=>?_);have hR0:=hR0.intoR hw (fun k e=>e);have hH2:HoldsM wl36 mb (putK lm (l.getD i default).key (S (l.getD i default).val)) (comes G (l.take (i+1))):=by rw [hst];exact hH.put hGi (by simpa using g22) mp36
      have hR2:=hR.step2 hw (fun k hk e=>hRm k hk e);refine L.nil (thn_n (LAD.done kr_ kr_ hR0 ?_));have hR:=trivial;have hs:=hs.carryR hR0 (fun k e=>by have e:k=mb:=e;rw [e];exact hAmb);have hb:=hb.carryR hR0 (fun e=>by have e:b=mb:=e;exact hbm e);have bx5:=trivial;refine blk_n (thn_n (W.region (L.val (x_add rfl rfl (wr64 om_)) rfl ?_)));refine L.val (x_mv (v:=.int _ _) rfl) rfl ?_;refine L.nil (thn_n ⟨rfl,?_⟩);refine ⟨_,?_,i+1,_,rfl,by first | rfl | exact vi om_ | exact vs (by first | assumption | (rw [hst];done) | (rw [hst];simp only [List.append_assoc])),by first | rfl | exact vi om_ | exact vs (by first | assumption | (rw [hst];done) | (rw [hst];simp only [List.append_assoc])),by first | rfl | exact vi om_ | exact vs (by first | assumption | (rw [hst];done) | (rw [hst];simp only [List.append_assoc])),by first | rfl | exact vi om_ | exact vs (by first | assumption | (rw [hst];done) | (rw [hst];simp only [List.append_assoc])),ao_,(by exact hR2),ao_,ao_,(by exact hH2)⟩;omega
    ·have h18:=dlt_f g18;refine W.exit (thn_x (thn_x (blk_hit ?_)));refine fin_mk (.inl rfl) ?_;have hie:i=l.length:=by omega
     subst hie;rw [List.take_length] at hH;exact ⟨mb,lm,hb,hnmb,hH,hmm,hR⟩
end Go.Gx
namespace Go.Gx
open Go.Proofs Go.Sort
theorem kstoe_el70:elT Tryz.prog 70 3=true:=by kernel_rfl
theorem kstoe_el9:elT Tryz.prog 9 1=true:=by kernel_rfl
theorem kstoe_en122:Go.Proofs.Enters Tryz.prog 122:=Go.Proofs.enters_of Tryz.func122 kr_ rfl
theorem kstoe_en123:Go.Proofs.Enters Tryz.prog 123:=Go.Proofs.enters_of Tryz.func123 kr_ rfl
theorem kstoe_en44:Go.Proofs.Enters Tryz.prog 44:=Go.Proofs.enters_of Tryz.func44 kr_ rfl
theorem kstoe_en63:Go.Proofs.Enters Tryz.prog 63:=Go.Proofs.enters_of Tryz.func63 kr_ rfl
theorem kstoe_en93:Go.Proofs.Enters Tryz.prog 93:=Go.Proofs.enters_of Tryz.func93 kr_ rfl
theorem kstoe_en94:Go.Proofs.Enters Tryz.prog 94:=Go.Proofs.enters_of Tryz.func94 kr_ rfl
theorem kstoe_en95:Go.Proofs.Enters Tryz.prog 95:=Go.Proofs.enters_of Tryz.func95 kr_ rfl
theorem kstoe_fo100_0:fieldOff Tryz.prog 100 0=some 0:=by kernel_rfl
theorem kstoe_fo97_0:fieldOff Tryz.prog 97 0=some 0:=by kernel_rfl
theorem kstoe_oc9:oneCellT Tryz.prog 9=true:=by kernel_rfl
theorem kstoe_oc95:oneCellT Tryz.prog 95=true:=by kernel_rfl
theorem kstoe_si70:structInfo Tryz.prog 70=some ([(0,1),(1,1),(2,1)],[S [],S [],Value.bool false]):=by kernel_rfl
theorem kstoe_sz9:(Tryz.prog.info? 9).map (·.size)=some 1:=by kernel_rfl
theorem hasprefix_okT (s h:Str) (w:World):Ret Tryz.prog 123 #[S s,S h] w fun v w'=>v=.bool (h.isPrefixOf s)∧w'=w:=by
  have prefix_take:(decide (h.length≤s.length) && (s.take h.length == h))=h.isPrefixOf s:=by
    rw [Bool.eq_iff_iff,Bool.and_eq_true,decide_eq_true_eq,beq_iff_eq,List.isPrefixOf_iff_prefix];constructor
    · rintro ⟨-,h2⟩;rw [← h2];exact List.take_prefix _ _
    · intro h1;exact ⟨h1.length_le,(List.prefix_iff_eq_take.1 h1).symm⟩
  refine ret_of_W Tryz.func123 rfl (Nat.le_of_ble_eq_true rfl) (res1 rfl) ?_;refine W.seq (W.region (L.val (x_as (v:=.bool _) rfl) rfl ?_));refine L.nil (thn_n (W.seq (W.region (L.val (x_mv (v:=S _) rfl) rfl ?_))));refine L.val (x_len_str Tryz.underlying9 rfl) rfl ?_;refine L.val (x_mv (v:=S _) rfl) rfl ?_;refine L.val (x_len_str Tryz.underlying9 rfl) rfl ?_;refine L.val (x_geq rfl rfl) rfl ?_;refine L.val (x_mv (v:=.bool _) rfl) rfl ?_;refine' L.group0 6 11 16 16 10 true rfl ?_ ?_ ?_;rotate_left 1
  ·intro g10;have h10:=of_decide_eq_true g10;refine L.gyes' (dj:=10) (b:=_) rfl rfl g10 ?_;refine L.val (x_mv (v:=S _) rfl) rfl ?_;refine L.gyes' (dj:=10) (b:=_) rfl rfl g10 ?_;refine L.val (x_mv (v:=S _) rfl) rfl ?_;refine L.gyes' (dj:=10) (b:=_) rfl rfl g10 ?_;refine L.val (x_len_str Tryz.underlying9 rfl) rfl ?_;refine L.gyes' (dj:=10) (b:=_) rfl rfl g10 ?_;refine L.val (x_slS (j:=h.length) Tryz.underlying9 rfl rfl rfl om_) rfl ?_;refine L.gyes' (dj:=10) (b:=_) rfl rfl g10 ?_;refine L.val (x_mv (v:=S _) rfl) rfl ?_;refine L.gyes' (dj:=10) (b:=_) rfl rfl g10 ?_;refine L.val (x_eqs rfl rfl) rfl ?_;refine L.nil (thn_n ⟨rfl,rfl,?_,rfl⟩);repeat (first | exact jeq.refl _ _ _ | refine jeq.upd rfl ?_ | refine jeq.jk rfl rfl ?_)
  ·intro g10;(iterate 6 refine L.gno (dj:=10) (b:=_) rfl rfl g10 rfl ?_);refine L.nil (thn_n ⟨rfl,rfl,?_⟩);repeat (first | exact jeq.refl _ _ _ | refine jeq.upd rfl ?_ | refine jeq.jk rfl rfl ?_)
  intro J10 j10;refine L.val (x_and rfl j10) rfl ?_;refine L.val (x_as (v:=.bool _) rfl) rfl ?_;refine L.nil (thn_n (W.ret (fin_mk (.inr rfl) ?_)));exact ⟨vb (by rw [← prefix_take];simp only [Int.ofNat_le]),rfl⟩
theorem prefix_okT (s h:Str) (w:World):Ret Tryz.prog 95 #[S s,S h] w fun v w'=>v=.bool (h.isPrefixOf s)∧w'=w:=by
  refine ret_of_W Tryz.func95 rfl (Nat.le_of_ble_eq_true rfl) (res1 rfl) ?_;refine W.seq (W.region (L.val (x_as (v:=.bool _) rfl) rfl ?_));refine L.nil (thn_n (W.seq (W.region (L.val (x_mv (v:=S _) rfl) rfl ?_))));refine L.val (x_mv (v:=S _) rfl) rfl ?_;refine L.ret (x_call kstoe_en123 rfl) rfl (hasprefix_okT s h _) ?_;rintro _ w7 ⟨rfl,rfl⟩;refine L.val (x_as (v:=.bool _) rfl) rfl ?_;refine L.nil (thn_n (W.ret (fin_mk (.inr rfl) ?_)));exact ⟨rfl,rfl⟩
theorem filter_takeT {α : Type} {p:α → Bool} {l:List α} {k:Nat} (h:k<l.length) (d:α):(l.take (k+1)).filter p=(l.take k).filter p++(if p (l.getD k d) then [l.getD k d] else []):=by
  rw [List.take_add_one,List.getElem?_eq_getElem h,List.filter_append,List.getD_eq_getElem?_getD,List.getElem?_eq_getElem h];simp only [Option.toList_some,Option.getD_some,List.filter_cons,List.filter_nil]
def keysG (G:List Ed) (h:Str):List Str:=(G.map (·.key)).filter fun s=>h.isPrefixOf s
theorem keysG_nil (G:List Ed):keysG G []=G.map (·.key):=by
  unfold keysG;rw [List.filter_eq_self.2];intro a _;cases a <;> rfl
theorem keys_get {T:TypeId} {n0 b:Nat} {m:Option Nat} {rest:List Value} {G:List Ed} (h:Str) (w:World) (hb:Box w b T (.map m :: rest)) (hm:MapHas n0 w m G) (hG:Rises G) (hk:∀ e∈G,e.key.length≤1000) (hl:G.length≤1000000):
    Ret Tryz.prog 63 #[.pointer (some ⟨b,0,none⟩),S h] w fun v w'=>StrsAt (fun k=>k<w.heap.size) w' v (keysG G h)∧Bel w w':=by
  have hGn:(G.map (·.key)).Nodup:=(rises_keys hG).imp fun {a b} h e=>by rw [e,lt_irr] at h;cases h
  refine ret_of_W Tryz.func63 rfl (Nat.le_of_ble_eq_true rfl) (res1 rfl) ?_;have hB:=Gr.refl (fun _=>False) w;refine W.seq (W.region (L.val (x_as (v:=.slice _ _ _) rfl) rfl ?_));refine L.nil (thn_n (W.seq (W.region (L.val (x_as (v:=.slice _ _ _) rfl) rfl ?_))));refine L.nil (thn_n (W.seq (W.seq (W.region (L.val (x_mv (v:=.pointer _) rfl) rfl ?_)))));refine L.val (x_nil rfl) rfl ?_;refine L.val (x_fa kstoe_fo97_0 rfl) rfl ?_;refine L.val (x_ld (v:=.map _) kstoe_oc95 rfl (hb.cell0 rfl)) rfl ?_;refine L.ret (x_call kstoe_en94 rfl) rfl (keys_any m _) ?_;rintro _ w12 ⟨rfl,bx12,hw⟩;have hB:=hB.carry hw;have hb:=hb.carry hw;have hm:=hm.carry hw;refine L.ret (x_call kstoe_en93 rfl) rfl (sorted_ok _ _ (G.map (·.key)) _ kstoe_en122 (by rw [List.length_map];omega) (fun xs hx=>hx) (keys_has hm hG bx12.lt (bx12.cell (i:=0) rfl))) ?_;rintro v13 w13 ⟨hN,hw⟩;have hB:=hB.carry hw;have hb:=hb.carry hw;have hm:=hm.carry hw;have bx12:=bx12.carry hw;obtain ⟨ks,hkp,hks,hka⟩:=sortedNew_strs hN hGn (fun x hx=>by obtain ⟨e,he,rfl⟩:=List.mem_map.1 hx;have:=hk e he;omega) (by rw [List.length_map];omega);have hkeq:ks=G.map (·.key):=sorted_eq hks (rises_keys hG) (fun x=>hkp.mem_iff);subst hkeq;have hka:=hka.new;obtain ⟨pk,ck,rfl,-⟩:=id hka;have hz13:w.heap.size≤w13.heap.size:=by have:=hB.size;omega
  have hlm:(G.map (·.key)).length≤1000000:=by rw [List.length_map];exact hl
  generalize hKS:G.map (·.key)=ks at *;refine L.val (x_len_slice Tryz.underlying22 rfl) rfl ?_;refine L.val (x_mv (v:=.int _ _) rfl) rfl ?_;refine L.nil (thn_n (W.block (W.loop (fun m' E w'=>∃ (i:Nat) (vo:Value),m'=ks.length - i∧E 1=S h∧E 5=vo∧E 13=.slice pk ks.length ck∧E 14=.int .i64 (ks.length:Nat)∧E 15=.int .i64 (i:Nat)∧(i≤ks.length)∧(Bel w w')∧(StrsAt (fun k=>w13.heap.size≤k) w' (.slice pk ks.length ck) ks)∧(w13.heap.size≤w'.heap.size)∧(Own w' w13.heap.size 9 1 vo ((ks.take i).filter fun s=>h.isPrefixOf s).length (((ks.take i).filter fun s=>h.isPrefixOf s).map S))) (ks.length) ?_ ?_)))
  ·exact ⟨0,.slice none 0 0,by omega,vi_,vi_,vi_,vi_,vi_,ao_,ao_,ao_,ao_,(by exact own_nil)⟩
  ·rintro _ E wL16 ⟨i,vo,em,e1,e5,e13,e14,e15,hi,hB,hka,hz,hO⟩;rw [upd_self e1,upd_self e5,upd_self e13,upd_self e14,upd_self e15];refine W.seq (W.region (L.val (x_lss rfl rfl) rfl ?_));refine L.nil (thn_n (W.seq (W.cond (b:=_) rfl (fun g16=>?_) (fun g16=>?_))))
   ·have h16:=of_decide_eq_true g16;have hlt:i<ks.length:=by omega
    obtain ⟨bk,ok,rfl,hck⟩:=hka.elem hlt;obtain ⟨av,cv,ev,-⟩:=own_shape hO;subst ev;have hf:=filter_takeT (p:=fun s=>h.isPrefixOf s) hlt [];have hll:((ks.take i).filter fun s=>h.isPrefixOf s).length≤1000000:=by
      have h1:=List.length_filter_le (fun s=>h.isPrefixOf s) (ks.take i);rw [List.length_take] at h1;omega
    refine W.skip (thn_n (W.seq (W.block (W.seq (W.region (L.val (x_ia1 (j:=i) Tryz.underlying22 kstoe_sz9 rfl rfl om_ om_) rfl ?_))))));refine L.val (x_ld (v:=S _) kstoe_oc9 rfl hck) rfl ?_;refine L.val (x_as (v:=S _) rfl) rfl ?_;refine L.nil (thn_n (W.seq (W.region (L.val (x_mv (v:=S _) rfl) rfl ?_))));refine L.val (x_mv (v:=S _) rfl) rfl ?_;refine L.ret (x_call kstoe_en95 rfl) rfl (prefix_okT (ks.getD i []) h _) ?_;rintro _ w21 ⟨rfl,hq⟩;rw [hq];have hz2:=hz;refine L.nil (thn_n (W.cond (b:=_) rfl (fun g21=>?_) (fun g21=>?_)))
    ·have h21:=g21;have hf1:(ks.take (i+1)).filter (fun s=>h.isPrefixOf s)=(ks.take i).filter (fun s=>h.isPrefixOf s)++[ks.getD i []]:=by rw [hf,if_pos g21]
     refine W.region (L.val (x_mv (v:=.slice _ _ _) rfl) rfl ?_);refine L.val (x_mv (v:=S _) rfl) rfl ?_;refine L.bs (sz:=1) (cells:=[S (ks.getD i [])]) Tryz.underlying22 kstoe_el9 rfl rfl rfl rfl (fun w24 bx24 hw hz24=>?_);have hB:=hB.carry hw;have hka:=hka.carry hw;have hO:=hO.carry hw;refine L.appendN (m:=1) Tryz.underlying22 kstoe_el9 rfl rfl rfl hO rfl (holdsN_box bx24) (by simp [Value.oneCell',S]) om_ om_ (fun v25 w25 hO25 hg hob25=>?_);obtain ⟨a25,c25,e25,-⟩:=own_shape hO25;subst e25;have hz2:w13.heap.size≤w25.heap.size:=by have:=hg.size;omega
     have hB:=hB.step hg (fun i hi e=>by have:=(Own.lt hO e).1;omega);have hka:=hka.carryR hg (fun k e=>(Own.lt hO e).1);have hO2:Own w25 w13.heap.size 9 1 (.slice a25 (((ks.take i).filter fun s=>h.isPrefixOf s).length+1) c25) ((ks.take (i+1)).filter fun s=>h.isPrefixOf s).length (((ks.take (i+1)).filter fun s=>h.isPrefixOf s).map S):=by
       rw [hf1,List.length_append,List.map_append];exact hO25
     refine L.val (x_as (v:=.slice _ _ _) rfl) rfl ?_;refine L.nil (blk_n (thn_n (W.region (L.val (x_add rfl rfl (wr64 om_)) rfl ?_))));refine L.val (x_mv (v:=.int _ _) rfl) rfl ?_;refine L.nil (thn_n ⟨rfl,?_⟩);refine ⟨_,?_,i+1,_,rfl,vi_,vi_,vi_,vi_,vi_,ao_,ao_,ao_,(by exact hz2),(by exact hO2)⟩;omega
    ·have h21:=g21;have hf1:(ks.take (i+1)).filter (fun s=>h.isPrefixOf s)=(ks.take i).filter (fun s=>h.isPrefixOf s):=by rw [hf,if_neg (by rw [g21];decide),List.append_nil]
     have hO2:Own wL16 w13.heap.size 9 1 (.slice av ((ks.take i).filter fun s=>h.isPrefixOf s).length cv) ((ks.take (i+1)).filter fun s=>h.isPrefixOf s).length (((ks.take (i+1)).filter fun s=>h.isPrefixOf s).map S):=by rw [hf1];exact hO
     refine W.skip (blk_n (thn_n (W.region (L.val (x_add rfl rfl (wr64 om_)) rfl ?_))));refine L.val (x_mv (v:=.int _ _) rfl) rfl ?_;refine L.nil (thn_n ⟨rfl,?_⟩);refine ⟨_,?_,i+1,_,rfl,vi_,vi_,vi_,vi_,vi_,ao_,ao_,ao_,(by exact hz2),(by exact hO2)⟩;omega
   ·have h16:=dlt_f g16;have hie:i=ks.length:=by omega
    subst hie;rw [List.take_length] at hO;obtain ⟨av,cv,ev,-⟩:=own_shape hO;subst ev;have hll:(ks.filter fun s=>h.isPrefixOf s).length≤1000000:=by
      have h1:=List.length_filter_le (fun s=>h.isPrefixOf s) ks;omega
    refine W.exit (thn_x (thn_x (blk_hit ?_)));refine thn_n (W.seq (W.region (L.val (x_mv (v:=.slice _ _ _) rfl) rfl ?_)));refine L.val (x_as (v:=.slice _ _ _) rfl) rfl ?_;refine L.nil (thn_n (W.ret (fin_mk (.inr rfl) ?_)));have e:keysG G h=ks.filter fun s=>h.isPrefixOf s:=by unfold keysG;rw [hKS]
    rw [e];refine ⟨strs_done hO om_ (fun x hx=>?_) (fun j hj=>by omega),hB⟩;have hx:=(List.mem_filter.1 hx).1;rw [← hKS] at hx;obtain ⟨e,he,rfl⟩:=List.mem_map.1 hx;have:=hk e he;omega
theorem val_at {G:List Ed} (hG:Rises G) {i:Nat} (h:i<G.length):valE G (G.getD i default).key=some (G.getD i default).val∧(G.getD i default).gone=false:=by
  have:=(rises_find hG).1 (show G.getD i default∈G by rw [List.getD_eq_getElem?_getD,List.getElem?_eq_getElem h];exact List.getElem_mem h);exact ⟨this.2,this.1⟩
theorem keys_at {G:List Ed} {i:Nat} (h:i<G.length):(G.map (·.key)).getD i []=(G.getD i default).key:=by
  rw [List.getD_eq_getElem?_getD,List.getElem?_map,List.getD_eq_getElem?_getD,List.getElem?_eq_getElem h];rfl
theorem snap_take {G:List Ed} {i:Nat} (h:i<G.length):allB (snapL (G.take (i+1)))=allB (snapL (G.take i))++[bodyB [G.getD i default]]:=by
  unfold allB snapL;rw [take_snoc (d:=default) h,List.map_append,List.map_append];rfl
theorem snapshot_ok {T:TypeId} {n0 b:Nat} {m:Option Nat} {rest:List Value} {G:List Ed} (w:World) (hb:Box w b T (.map m :: rest)) (hm:MapHas n0 w m G) (hG:Rises G) (hmay:mayL G=true) (hl:G.length≤1000000):
    Ret Tryz.prog 46 #[.pointer (some ⟨b,0,none⟩)] w fun v w'=>StrsAt (fun k=>k<w.heap.size) w' v (allB (snapL G))∧Bel w w':=by
  have hme:∀ e∈G,mayE e=true:=fun e he=>List.all_eq_true.1 hmay e he
  have hb0:=hb;refine ret_of_W Tryz.func46 rfl (Nat.le_of_ble_eq_true rfl) (res1 rfl) ?_;have hB:=Gr.refl (fun _=>False) w;refine W.seq (W.region (L.val (x_as (v:=.slice _ _ _) rfl) rfl ?_));refine L.nil (thn_n (W.seq (W.region (L.val (x_as (v:=.slice _ _ _) rfl) rfl ?_))));refine L.nil (thn_n (W.seq (W.seq (W.region (L.val (x_mv (v:=.pointer _) rfl) rfl ?_)))));refine L.ret (x_call kstoe_en63 rfl) rfl (keys_get [] _ hb hm hG (fun e he=>by have:=mayE_len (hme e he);omega) hl) ?_;rintro v7 w7 ⟨hka,hw⟩;have hB:=hB.carry hw;have hb:=hb.carry hw;have hm:=hm.carry hw;have hka:=hka.new;rw [keysG_nil] at hka;obtain ⟨pk,ck,rfl,-⟩:=id hka;rw [List.length_map] at hka ⊢;have hz7:=hw.size;refine L.val (x_len_slice Tryz.underlying22 rfl) rfl ?_;refine L.val (x_mv (v:=.int _ _) rfl) rfl ?_;refine L.nil (thn_n (W.block (W.loop (fun m' E w'=>∃ (i:Nat) (vo:Value),m'=G.length - i∧E 0=.pointer (some ⟨b,0,none⟩)∧E 3=vo∧E 7=.slice pk G.length ck∧E 8=.int .i64 (G.length:Nat)∧E 9=.int .i64 (i:Nat)∧(i≤G.length)∧(Bel w w')∧(Box w' b T (.map m :: rest))∧(MapHas n0 w' m G)∧(StrsAt (fun k=>w7.heap.size≤k) w' (.slice pk G.length ck) (G.map (·.key)))∧(w7.heap.size≤w'.heap.size)∧(Own w' w7.heap.size 9 1 vo i ((allB (snapL (G.take i))).map S))) (G.length) ?_ ?_)))
  ·exact ⟨0,.slice none 0 0,by omega,by first | rfl | exact vi om_ | exact vs (by first | assumption | (rw [hst];done) | (rw [hst];simp only [List.append_assoc])),by first | rfl | exact vi om_ | exact vs (by first | assumption | (rw [hst];done) | (rw [hst];simp only [List.append_assoc])),by first | rfl | exact vi om_ | exact vs (by first | assumption | (rw [hst];done) | (rw [hst];simp only [List.append_assoc])),by first | rfl | exact vi om_ | exact vs (by first | assumption | (rw [hst];done) | (rw [hst];simp only [List.append_assoc])),by first | rfl | exact vi om_ | exact vs (by first | assumption | (rw [hst];done) | (rw [hst];simp only [List.append_assoc])),ao_,ao_,ao_,ao_,ao_,ao_,(by exact own_nil)⟩
  ·rintro _ E wL10 ⟨i,vo,em,e0,e3,e7,e8,e9,hi,hB,hb,hm,hka,hz,hO⟩;rw [upd_self e0,upd_self e3,upd_self e7,upd_self e8,upd_self e9];refine W.seq (W.region (L.val (x_lss rfl rfl) rfl ?_));refine L.nil (thn_n (W.seq (W.cond (b:=_) rfl (fun g10=>?_) (fun g10=>?_))))
   ·have h10:=of_decide_eq_true g10;have hlt:i<G.length:=by omega
    obtain ⟨bk,ok,rfl,hck⟩:=hka.elem (i:=i) (by rw [List.length_map];exact hlt);rw [keys_at hlt] at hck;obtain ⟨av,cv,ev,-⟩:=own_shape hO;subst ev;obtain ⟨hv1,hv2⟩:=val_at hG hlt;have hst:=snap_take hlt;have hmi:=hme (G.getD i default) (by rw [List.getD_eq_getElem?_getD,List.getElem?_eq_getElem hlt];exact List.getElem_mem hlt);have hbl:=body1_len hmi;have hml:=mayE_len hmi;refine W.skip (thn_n (W.seq (W.block (W.seq (W.region (L.val (x_ia1 (j:=i) Tryz.underlying22 kstoe_sz9 rfl rfl om_ om_) rfl ?_))))));refine L.val (x_ld (v:=S _) kstoe_oc9 rfl hck) rfl ?_;refine L.val (x_as (v:=S _) rfl) rfl ?_;refine L.nil (thn_n (W.region (L.val (x_mv (v:=.slice _ _ _) rfl) rfl ?_)));refine L.val (x_mv (v:=S _) rfl) rfl ?_;refine L.val (x_mv (v:=.pointer _) rfl) rfl ?_;refine L.val (x_nil rfl) rfl ?_;refine L.val (x_fa kstoe_fo97_0 rfl) rfl ?_;refine L.val (x_ld (v:=.map _) kstoe_oc95 rfl (hb.cell0 rfl)) rfl ?_;refine L.val (x_mv (v:=S _) rfl) rfl ?_;refine L.val (x_hasF Tryz.underlying95 (klawS Tryz.underlying9) kr_ rfl rfl hm) rfl ?_;refine L.val (x_build (cells:=[S _,S _,.bool _]) kstoe_si70 rfl rfl) rfl ?_;refine L.bs (sz:=3) (cells:=edV ⟨(G.getD i default).key,(valE G (G.getD i default).key).getD [],false⟩) Tryz.underlying31 kstoe_el70 rfl rfl rfl rfl (fun w22 bx22 hw hz22=>?_);have hB:=hB.carry hw;have hb:=hb.carry hw;have hm:=hm.carry hw;have hka:=hka.carry hw;have hO:=hO.carry hw;have e22:(⟨(G.getD i default).key,(valE G (G.getD i default).key).getD [],false⟩:Ed)=G.getD i default:=by
      rw [hv1,← hv2];rfl
    rw [e22] at bx22;have hE:=eds_of_box (A:=fun _=>False) [G.getD i default] (by simpa using bx22) (fun f=>f) (by simp) (fun e he=>by rw [List.mem_singleton.1 he];exact ⟨by omega,by omega⟩);refine L.ret (x_call kstoe_en44 rfl) rfl (body_ok _ _ [G.getD i default] _ hE (by simp) om_) ?_;rintro _ w23 ⟨rfl,hw⟩;have hB:=hB.carry hw;have hb:=hb.carry hw;have hm:=hm.carry hw;have hka:=hka.carry hw;have hO:=hO.carry hw;have bx22:=bx22.carry hw;have hs23:=hw.size;refine L.bs (sz:=1) (cells:=[S (bodyB [G.getD i default])]) Tryz.underlying22 kstoe_el9 rfl rfl rfl rfl (fun w24 bx24 hw hz24=>?_);have hB:=hB.carry hw;have hb:=hb.carry hw;have hm:=hm.carry hw;have hka:=hka.carry hw;have hO:=hO.carry hw;have bx22:=bx22.carry hw;refine L.appendN (m:=1) Tryz.underlying22 kstoe_el9 rfl rfl rfl hO rfl (holdsN_box bx24) (by simp [Value.oneCell',S]) om_ om_ (fun v25 w25 hO25 hg hob25=>?_);obtain ⟨a25,c25,e25,-⟩:=own_shape hO25;subst e25;have hsz7:w.heap.size≤w7.heap.size:=hz7;have hblt:=hb0.lt;have hz2:w7.heap.size≤w25.heap.size:=by have:=hg.size;omega
    have hB:=hB.step hg (fun i hi e=>by have:=(Own.lt hO e).1;omega);have hka:=hka.carryR hg (fun k e=>(Own.lt hO e).1);have hb:=hb.carryR hg (fun e=>by have:=(Own.lt hO e).1;omega);have hm:=hm.carryR hg (fun k hk e=>by
      rcases hm with ⟨e1,-⟩ | ⟨mb,l',e1,-,hH⟩
      · rw [e1] at hk;cases hk
      · rw [e1] at hk;cases hk;obtain ⟨es,ck',hes,-⟩:=hH.map;have:=Own.cells hO e hes;cases this)
    have hO2:Own w25 w7.heap.size 9 1 (.slice a25 (i+1) c25) (i+1) ((allB (snapL (G.take (i+1)))).map S):=by
      rw [hst,List.map_append];exact hO25
    refine L.val (x_as (v:=.slice _ _ _) rfl) rfl ?_;refine L.nil (blk_n (thn_n (W.region (L.val (x_add rfl rfl (wr64 om_)) rfl ?_))));refine L.val (x_mv (v:=.int _ _) rfl) rfl ?_;refine L.nil (thn_n ⟨rfl,?_⟩);refine ⟨_,?_,i+1,_,rfl,by first | rfl | exact vi om_ | exact vs (by first | assumption | (rw [hst];done) | (rw [hst];simp only [List.append_assoc])),by first | rfl | exact vi om_ | exact vs (by first | assumption | (rw [hst];done) | (rw [hst];simp only [List.append_assoc])),by first | rfl | exact vi om_ | exact vs (by first | assumption | (rw [hst];done) | (rw [hst];simp only [List.append_assoc])),by first | rfl | exact vi om_ | exact vs (by first | assumption | (rw [hst];done) | (rw [hst];simp only [List.append_assoc])),by first | rfl | exact vi om_ | exact vs (by first | assumption | (rw [hst];done) | (rw [hst];simp only [List.append_assoc])),ao_,ao_,ao_,ao_,ao_,(by exact hz2),(by exact hO2)⟩;omega
   ·have h10:=dlt_f g10;have hie:i=G.length:=by omega
    subst hie;rw [List.take_length] at hO;have e:G.length=(allB (snapL G)).length:=by unfold allB snapL;simp
    rw [e] at hO;obtain ⟨av,cv,ev,-⟩:=own_shape hO;subst ev;refine W.exit (thn_x (thn_x (blk_hit ?_)));refine thn_n (W.seq (W.region (L.val (x_mv (v:=.slice _ _ _) rfl) rfl ?_)));refine L.val (x_as (v:=.slice _ _ _) rfl) rfl ?_;refine L.nil (thn_n (W.ret (fin_mk (.inr rfl) ?_)));refine ⟨strs_done hO (by rw [← e];omega) (fun x hx=>?_) (fun j hj=>by omega),hB⟩;obtain ⟨l,hl,rfl⟩:=List.mem_map.1 hx;obtain ⟨e,he,rfl⟩:=List.mem_map.1 hl;have:=body1_len (hme e he);omega
def StoAt (n0:Nat) (w:World) (bs bl:Nat) (G:List Ed):Prop:=∃ m,n0≤bs∧Box w bs 100 [.map m,.pointer (some ⟨bl,0,none⟩)]∧MapHas n0 w m G
theorem StoAt.carry {n0 bs bl:Nat} {w w':World} {G:List Ed} (h:StoAt n0 w bs bl G) (g:Bel w w'):StoAt n0 w' bs bl G:=by
  obtain ⟨m,h1,h2,h3⟩:=h;exact ⟨m,h1,h2.carry g,h3.carry g⟩
theorem get_s (n0 bs bl:Nat) (G:List Ed) (k:Str) (w:World) (h:StoAt n0 w bs bl G):Ret Tryz.prog 29 #[.pointer (some ⟨bs,0,none⟩),S k] w fun v w'=>v=.tuple #[S ((valE G k).getD []),.bool (valE G k).isSome]∧w'=w:=by
  obtain ⟨m,h1,hb,hm⟩:=h;refine ret_of_W Tryz.func29 rfl (Nat.le_of_ble_eq_true rfl) (res2 rfl) ?_;refine W.seq (W.region (L.val (x_as (v:=S _) rfl) rfl ?_));refine L.val (x_as (v:=.bool _) rfl) rfl ?_;refine L.nil (thn_n (W.seq (W.seq (W.region (L.val (x_mv (v:=.pointer _) rfl) rfl ?_)))));refine L.val (x_eqp0 Tryz.underlying40 rfl rfl) rfl ?_;refine L.nil (thn_n (W.cond (b:=_) rfl (fun g9=>?_) (fun g9=>?_)))
  ·have h9:=g9;cases g9
  ·have h9:=g9;refine W.skip (thn_n (W.seq (W.region (L.val (x_mv (v:=.pointer _) rfl) rfl ?_))));refine L.val (x_nil rfl) rfl ?_;refine L.val (x_fa kstoe_fo100_0 rfl) rfl ?_;refine L.val (x_fa kstoe_fo97_0 rfl) rfl ?_;refine L.val (x_ld (v:=.map _) kstoe_oc95 rfl (hb.cell0 rfl)) rfl ?_;refine L.val (x_mv (v:=S _) rfl) rfl ?_;refine L.val (x_hasT Tryz.underlying95 (klawS Tryz.underlying9) kr_ rfl rfl hm) rfl ?_;refine L.val (x_mv (v:=_) rfl) rfl ?_;refine L.val (x_ext (v:=S _) rfl rfl) rfl ?_;refine L.val (x_ext (v:=.bool _) rfl rfl) rfl ?_;refine L.val (x_as (v:=S _) rfl) rfl ?_;refine L.val (x_as (v:=.bool _) rfl) rfl ?_;refine L.nil (thn_n (W.seq (W.region (L.val (x_mv (v:=S _) rfl) rfl ?_))));refine L.val (x_mv (v:=.bool _) rfl) rfl ?_;refine L.val (x_as (v:=S _) rfl) rfl ?_;refine L.val (x_as (v:=.bool _) rfl) rfl ?_;refine L.nil (thn_n (W.ret (fin_mk (.inr rfl) ?_)));exact ⟨rfl,rfl⟩
theorem keys_s (n0 bs bl:Nat) (G:List Ed) (k:Str) (w:World) (h:StoAt n0 w bs bl G) (hG:Rises G) (hk:∀ e∈G,e.key.length≤1000) (hl:G.length≤1000000):Ret Tryz.prog 31 #[.pointer (some ⟨bs,0,none⟩),S k] w fun v w'=>StrsAt (fun j=>j<w.heap.size) w' v (keysG G k)∧Bel w w':=by
  obtain ⟨m,h1,hb,hm⟩:=h;refine ret_of_W Tryz.func31 rfl (Nat.le_of_ble_eq_true rfl) (res1 rfl) ?_;refine W.seq (W.region (L.val (x_as (v:=.slice _ _ _) rfl) rfl ?_));refine L.nil (thn_n (W.seq (W.seq (W.region (L.val (x_mv (v:=.pointer _) rfl) rfl ?_)))));refine L.val (x_eqp0 Tryz.underlying40 rfl rfl) rfl ?_;refine L.nil (thn_n (W.cond (b:=_) rfl (fun g6=>?_) (fun g6=>?_)))
  ·have h6:=g6;cases g6
  ·have h6:=g6;refine W.skip (thn_n (W.seq (W.region (L.val (x_mv (v:=.pointer _) rfl) rfl ?_))));refine L.val (x_nil rfl) rfl ?_;refine L.val (x_fa kstoe_fo100_0 rfl) rfl ?_;refine L.val (x_mv (v:=S _) rfl) rfl ?_;refine L.ret (x_call kstoe_en63 rfl) rfl (keys_get k _ hb hm hG hk hl) ?_;rintro v11 w11 ⟨hq,hw⟩;obtain ⟨p11,c11,rfl,-⟩:=id hq;refine L.val (x_as (v:=.slice _ _ _) rfl) rfl ?_;refine L.nil (thn_n (W.ret (fin_mk (.inr rfl) ?_)));exact ⟨hq,hw⟩
end Go.Gx
namespace Go.Gx
open Go.Proofs
theorem rdD_pl {D:Dk} (h:D.ca=[]) (i:Nat):rdD D i=D.pl.getD i []:=by unfold rdD;rw [h];rfl
def nck (D:Dk) (p:Pt) (at':Nat) (s:Str):Nat:=if s=[] then 0 else ((allS D p at' s).length+63) / 64
end Go.Gx
namespace Go.Gx
open Go.Proofs
structure Rep (D:Dk) (q:Pt) (all:List Str):Prop where
  ok:QOk D q
  big:tooBig all=false
  tail:q.tail=(all.map frm).flatten.length
  cnt:q.cnt=all.length
  area:allA D q=(all.map frm).flatten
  z:q.ep=0→q=pt0∧rdD D 0=zeros 64∧rdD D 1=zeros 64
  hd:0<q.ep→rdD D (q.ep % 2)=hdrS q
  ot:0<q.ep→rdOk (rdD D ((q.ep+1) % 2)) (roomN D.pl.length)=true→(rdPt (rdD D ((q.ep+1) % 2))).ep<q.ep
theorem rdOk_zeros (room:Nat):rdOk (zeros 64) room=false:=by
  have h:((zeros 64).drop 17).take 17=turnS ((zeros 64).take 17)→False:=by decide +kernel
  unfold rdOk;rw [beq_eq_false_iff_ne.2 h];rfl
theorem QOk.pt {D:Dk} {q:Pt} (h:QOk D q) (hok:DkOk D):PtOk q:=by
  have:=roomN_le hok.small;have:=h.tail;have:=h.half;have:=h.ep;have:=h.cnt;exact ⟨by omega,by omega,by omega,by omega⟩
theorem rep_new {m:Nat} (h:6≤m):Rep (newD m) pt0 []:=by
  have hz:∀ i,i<m→rdD (newD m) i=zeros 64:=fun i hi=>by
    rw [rdD_pl rfl];show (List.replicate m (zeros 64)).getD i []=_;rw [List.getD_eq_getElem?_getD,List.getElem?_replicate,if_pos hi];rfl
  exact ⟨q_new h,rfl,rfl,rfl,rfl,fun _=>⟨rfl,hz 0 om_,hz 1 om_⟩,fun e=>absurd e (by decide),fun e=>absurd e (by decide)⟩
end Go.Gx
namespace Go.Gx
open Go.Proofs
theorem turnB_nat (b:UInt8):(turnB b).toNat=255 - b.toNat:=by
  unfold turnB;rw [UInt8.toNat_ofNat'];have:=b.toNat_lt;omega
theorem turnB_0:turnB 0=255:=by decide
theorem turnB_255 {b:UInt8} (h:turnB b=255):b=0:=by
  have h1:=congrArg UInt8.toNat h;rw [turnB_nat] at h1;have h2:=b.toNat_lt;have h3:(255:UInt8).toNat=255:=rfl;apply UInt8.toNat_inj.1;have h4:(0:UInt8).toNat=0:=rfl;omega
theorem ok_bytes {s:Str} {room:Nat} (h:rdOk s room=true) (hl:s.length=64):∀ j,j<17→s.getD (17+j) 0=turnB (s.getD j 0):=fun j hj=>by
  unfold rdOk at h;simp only [Bool.and_eq_true,beq_iff_eq] at h;have e:=congrArg (fun l=>l[j]?) h.1.1;simp only [turnS] at e;rw [List.getElem?_take,if_pos hj,List.getElem?_drop,List.getElem?_map,List.getElem?_take,if_pos hj,List.getElem?_eq_getElem om_,List.getElem?_eq_getElem om_] at e;simp only [Option.map_some,Option.some.injEq] at e;rw [List.getD_eq_getElem?_getD,List.getD_eq_getElem?_getD,List.getElem?_eq_getElem om_,List.getElem?_eq_getElem om_];exact e
theorem eq_bytes {a b:Str} {m:Nat} (ha:m≤a.length) (hb:m≤b.length) (h:∀ j,j<m→a.getD j 0=b.getD j 0):a.take m=b.take m:=by
  apply List.ext_getElem?;intro j;rw [List.getElem?_take,List.getElem?_take];split
  · rename_i hj
    have:=h j hj;rw [List.getD_eq_getElem?_getD,List.getD_eq_getElem?_getD,List.getElem?_eq_getElem om_,List.getElem?_eq_getElem om_] at this;rw [List.getElem?_eq_getElem om_,List.getElem?_eq_getElem om_];exact congrArg some this
  · rfl
theorem zz_get (n:Nat) (s:Str) (j:Nat):(zeros n++s.drop n).getD j 0=if j<n then 0 else s.getD j 0:=by
  rw [List.getD_eq_getElem?_getD,List.getElem?_append,zeros_len];split
  · rename_i h
    unfold zeros;rw [List.getElem?_replicate,if_pos h];rfl
  · rename_i h
    rw [List.getElem?_drop,List.getD_eq_getElem?_getD,show n+(j - n)=j by omega]
theorem zz_len {n:Nat} {s:Str} (hn:n≤64) (hs:s.length=64):(zeros n++s.drop n).length=64:=by
  rw [List.length_append,zeros_len,List.length_drop];omega
theorem tz_get (m:Nat) (s:Str) (hs:s.length=64) (hm:m≤64) (j:Nat):(s.take m++zeros (64 - m)).getD j 0=if j<m then s.getD j 0 else 0:=by
  rw [List.getD_eq_getElem?_getD,List.getElem?_append,List.length_take,hs,Nat.min_eq_left hm];split
  · rename_i h
    rw [List.getElem?_take,if_pos h,List.getD_eq_getElem?_getD]
  · unfold zeros;rw [List.getElem?_replicate];split <;> rfl
theorem tz_len {m:Nat} {s:Str} (hm:m≤64) (hs:s.length=64):(s.take m++zeros (64 - m)).length=64:=by
  rw [List.length_append,zeros_len,List.length_take];omega
def ZP (room:Nat) (s:Str):Prop:=∀ n,n≤64→rdOk (zeros n++s.drop n) room=true→(zeros n++s.drop n).take 34=s.take 34
theorem hdr_bytes (p:Pt):∀ j,j<17→(hdrS p).getD (17+j) 0=turnB ((hdrS p).getD j 0):=fun j hj=>by
  have hl:=hdrS_len p;have e:=congrArg (fun l=>l[j]?) ((hdr_17 p).2.trans (congrArg turnS (hdr_17 p).1.symm));simp only [turnS] at e;rw [List.getElem?_take,if_pos hj,List.getElem?_drop,List.getElem?_map,List.getElem?_take,if_pos hj,List.getElem?_eq_getElem om_,List.getElem?_eq_getElem om_] at e;simp only [Option.map_some,Option.some.injEq] at e;rw [List.getD_eq_getElem?_getD,List.getD_eq_getElem?_getD,List.getElem?_eq_getElem om_,List.getElem?_eq_getElem om_];exact e
theorem ne255:(0:UInt8)≠255:=by decide
theorem ZP_torn (room:Nat) (p:Pt) {m:Nat} (hm:m≤64):ZP room ((hdrS p).take m++zeros (64 - m)):=fun n hn hok=>by
  have hl:=hdrS_len p;have hls:=tz_len hm hl;have hb:=ok_bytes hok (zz_len hn hls);refine eq_bytes (by rw [zz_len hn hls];omega) om_ fun j hj=>?_
  rw [zz_get];split
  · rename_i hjn
    have h0:=hb 0 om_;rw [zz_get,zz_get,if_pos (show 0<n by omega),turnB_0] at h0;have hn17:n≤17:=by
      rcases Nat.lt_or_ge 17 n with h | h
      · rw [if_pos om_] at h0;exact absurd h0 ne255
      · exact h
    have h1:=hb j om_;rw [zz_get,zz_get,if_pos hjn,if_neg om_,turnB_0,tz_get m _ hl hm] at h1;split at h1
    · rename_i h17
      rw [hdr_bytes p j om_] at h1;rw [tz_get m _ hl hm,if_pos om_,turnB_255 h1]
    · exact absurd h1 ne255
  · rfl
end Go.Gx
