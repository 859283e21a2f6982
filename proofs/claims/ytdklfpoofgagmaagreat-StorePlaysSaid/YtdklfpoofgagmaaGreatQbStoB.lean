/- Transactions of a store: whether they may be, and as bytes. Conditions: none. -/
import Derived.Test.YtdklfpoofgagmaaGreatQbWal14
import Derived.Test.YtdklfpoofgagmaaGreatQbRanG
import Derived.Test.YtdklfpoofgagmaaGreatQbDsk4
namespace Go.Gx
open Go.Proofs
theorem kstob_ag70:aggT Tryz.prog 70 3=true:=by kernel_rfl
theorem kstob_en104:Go.Proofs.Enters Tryz.prog 104:=Go.Proofs.enters_of Tryz.func104 kr_ rfl
theorem kstob_en73:Go.Proofs.Enters Tryz.prog 73:=Go.Proofs.enters_of Tryz.func73 kr_ rfl
theorem kstob_en74:Go.Proofs.Enters Tryz.prog 74:=Go.Proofs.enters_of Tryz.func74 kr_ rfl
theorem kstob_fo70_0:fieldOff Tryz.prog 70 0=some 0:=by kernel_rfl
theorem kstob_fo70_1:fieldOff Tryz.prog 70 1=some 1:=by kernel_rfl
theorem kstob_fo70_2:fieldOff Tryz.prog 70 2=some 2:=by kernel_rfl
theorem kstob_oc4:oneCellT Tryz.prog 4=true:=by kernel_rfl
theorem kstob_oc9:oneCellT Tryz.prog 9=true:=by kernel_rfl
theorem kstob_sz70:(Tryz.prog.info? 70).map (·.size)=some 3:=by kernel_rfl
theorem may1_ok (e:Ed) (w:World):Ret Tryz.prog 74 #[.agg (edV e).toArray] w fun v w'=>v=.bool (!mayE e)∧Bel w w':=by
  have e1:decide ((100:Int)<((e.key.length:Nat):Int))=decide (100<e.key.length):=by rw [decide_eq_decide];omega
  have e2:decide ((8100:Int)<((e.val.length:Nat):Int))=decide (8100<e.val.length):=by rw [decide_eq_decide];omega
  refine ret_of_W Tryz.func74 rfl (Nat.le_of_ble_eq_true rfl) (res1 rfl) ?_;have hB:=Gr.refl (fun _=>False) w;refine W.seq (W.region (L.box (cs:=edV e) rfl rfl (fun w1 bx1 hw hz1=>?_)));have hB:=hB.carry hw;refine L.val (x_as (v:=.bool _) rfl) rfl ?_;refine L.nil (thn_n (W.seq (W.region (L.val (x_fa kstob_fo70_0 rfl) rfl ?_))));refine L.val (x_ld (v:=S _) kstob_oc9 rfl (bx1.cell0 rfl)) rfl ?_;refine L.val (x_eqs rfl rfl) rfl ?_;refine L.val (x_mv (v:=.bool _) rfl) rfl ?_;refine' L.group0 4 7 10 10 6 false rfl ?_ ?_ ?_;rotate_left 1
  ·intro g6;have h6:=seq_f g6;refine L.gyes' (dj:=6) (b:=_) rfl rfl g6 ?_;refine L.val (x_fa kstob_fo70_0 rfl) rfl ?_;refine L.gyes' (dj:=6) (b:=_) rfl rfl g6 ?_;refine L.val (x_ld (v:=S _) kstob_oc9 rfl (bx1.cell0 rfl)) rfl ?_;refine L.gyes' (dj:=6) (b:=_) rfl rfl g6 ?_;refine L.val (x_len_str Tryz.underlying9 rfl) rfl ?_;refine L.gyes' (dj:=6) (b:=_) rfl rfl g6 ?_;refine L.val (x_gtr rfl rfl) rfl ?_;refine L.nil (thn_n ⟨rfl,rfl,?_,rfl⟩);repeat (first | exact jeq.refl _ _ _ | refine jeq.upd rfl ?_ | refine jeq.jk rfl rfl ?_)
  ·intro g6;(iterate 4 refine L.gno (dj:=6) (b:=_) rfl rfl g6 rfl ?_);refine L.nil (thn_n ⟨rfl,rfl,?_⟩);repeat (first | exact jeq.refl _ _ _ | refine jeq.upd rfl ?_ | refine jeq.jk rfl rfl ?_)
  intro J6 j6;refine L.val (x_or rfl j6) rfl ?_;refine L.val (x_mv (v:=.bool _) rfl) rfl ?_;refine' L.group0 4 13 16 16 12 false rfl ?_ ?_ ?_;rotate_left 1
  ·intro g12;have h12:=g12;refine L.gyes' (dj:=12) (b:=_) rfl rfl g12 ?_;refine L.val (x_fa kstob_fo70_1 rfl) rfl ?_;refine L.gyes' (dj:=12) (b:=_) rfl rfl g12 ?_;refine L.val (x_ld (v:=S _) kstob_oc9 rfl (bx1.cell0 rfl)) rfl ?_;refine L.gyes' (dj:=12) (b:=_) rfl rfl g12 ?_;refine L.val (x_len_str Tryz.underlying9 rfl) rfl ?_;refine L.gyes' (dj:=12) (b:=_) rfl rfl g12 ?_;refine L.val (x_gtr rfl rfl) rfl ?_;refine L.nil (thn_n ⟨rfl,rfl,?_,rfl⟩);repeat (first | exact jeq.refl _ _ _ | refine jeq.upd rfl ?_ | refine jeq.jk rfl rfl ?_)
  ·intro g12;(iterate 4 refine L.gno (dj:=12) (b:=_) rfl rfl g12 rfl ?_);refine L.nil (thn_n ⟨rfl,rfl,?_⟩);repeat (first | exact jeq.refl _ _ _ | refine jeq.upd rfl ?_ | refine jeq.jk rfl rfl ?_)
  intro J12 j12;refine L.val (x_or rfl j12) rfl ?_;refine L.val (x_mv (v:=.bool _) rfl) rfl ?_;refine' L.group0 7 19 25 25 18 false rfl ?_ ?_ ?_;rotate_left 1
  ·intro g18;have h18:=g18;refine L.gyes' (dj:=18) (b:=_) rfl rfl g18 ?_;refine L.val (x_fa kstob_fo70_2 rfl) rfl ?_;refine L.gyes' (dj:=18) (b:=_) rfl rfl g18 ?_;refine L.val (x_ld (v:=.bool _) kstob_oc4 rfl (bx1.cell0 rfl)) rfl ?_;refine L.gyes' (dj:=18) (b:=_) rfl rfl g18 ?_;refine L.val (x_mv (v:=.bool _) rfl) rfl ?_;refine' L.group0 3 22 24 24 21 true rfl ?_ ?_ ?_;rotate_left 1
   ·intro g21;have h21:=g21;refine L.gyes' (dj:=21) (b:=_) rfl rfl g21 ?_;refine L.val (x_fa kstob_fo70_1 rfl) rfl ?_;refine L.gyes' (dj:=21) (b:=_) rfl rfl g21 ?_;refine L.val (x_ld (v:=S _) kstob_oc9 rfl (bx1.cell0 rfl)) rfl ?_;refine L.gyes' (dj:=21) (b:=_) rfl rfl g21 ?_;refine L.val (x_nes rfl rfl) rfl ?_;refine L.nil (thn_n ⟨rfl,rfl,?_,rfl⟩);repeat (first | exact jeq.refl _ _ _ | refine jeq.upd rfl ?_ | refine jeq.jk rfl rfl ?_)
   ·intro g21;(iterate 3 refine L.gno (dj:=21) (b:=_) rfl rfl g21 rfl ?_);refine L.nil (thn_n ⟨rfl,rfl,?_⟩);repeat (first | exact jeq.refl _ _ _ | refine jeq.upd rfl ?_ | refine jeq.jk rfl rfl ?_)
   intro J21 j21;refine L.gyes' (dj:=18) (b:=_) rfl rfl g18 ?_;refine L.val (x_and rfl j21) rfl ?_;refine L.nil (thn_n ⟨rfl,rfl,?_,rfl⟩);repeat (first | exact jeq.refl _ _ _ | refine jeq.upd rfl ?_ | refine jeq.jk rfl rfl ?_)
  ·intro g18;(iterate 3 refine L.gno (dj:=18) (b:=_) rfl rfl g18 rfl ?_);(iterate 3 refine L.gun (dj:=21) rfl rfl rfl ?_);refine L.gno (dj:=18) (b:=_) rfl rfl g18 rfl ?_;refine L.nil (thn_n ⟨rfl,rfl,?_⟩);repeat (first | exact jeq.refl _ _ _ | refine jeq.upd rfl ?_ | refine jeq.jk rfl rfl ?_)
  intro J18 j18;refine L.val (x_or rfl j18) rfl ?_;refine L.val (x_as (v:=.bool _) rfl) rfl ?_;refine L.nil (thn_n (W.ret (fin_mk (.inr rfl) ?_)));refine ⟨vb ?_,hB⟩;unfold mayE;rw [e1,e2];cases (e.key == []) <;> cases decide (100<e.key.length) <;> cases decide (8100<e.val.length) <;> cases e.gone <;> cases (e.val == []) <;> rfl
theorem any_notmay (l:List Ed):(List.range l.length).any (fun i=>!mayE (l.getD i default))=!mayL l:=by
  unfold mayL;cases h:l.all mayE with
  | false=>
    rw [Bool.not_false,List.any_eq_true];obtain ⟨x,hx,hp⟩:=List.all_eq_false.1 h;obtain ⟨i,hi,rfl⟩:=List.getElem_of_mem hx;exact ⟨i,List.mem_range.2 hi,by rw [List.getD_eq_getElem?_getD,List.getElem?_eq_getElem hi];simpa using hp⟩
  | true=>
    rw [Bool.not_true,List.any_eq_false];intro i hi;have hi:=List.mem_range.1 hi;have:=List.all_eq_true.1 h (l.getD i default) (by rw [List.getD_eq_getElem?_getD,List.getElem?_eq_getElem hi];exact List.getElem_mem hi);rw [this];decide
theorem anyE_succ {q:Nat→Bool} {k:Nat}:(List.range (k+1)).any q=((List.range k).any q || q k):=by rw [List.range_succ,List.any_append];simp
theorem ifed_ok (A:Nat→Prop) (v:Value) (l:List Ed) (w:World) (h:EdsAt A w v l):
    Ret Tryz.prog 104 #[v,.func (.func 74) #[] #[]] w fun r w'=>(∃ i:Int,r=.int .i64 i∧decide (0≤i)=!mayL l)∧Bel w w':=by
  obtain ⟨p,cap,row,rfl,h1,h2,h3,-⟩:=id h;refine ret_of_W Tryz.func104 rfl (Nat.le_of_ble_eq_true rfl) (res1 rfl) ?_;have hB:=Gr.refl (fun _=>False) w;refine W.seq (W.region (L.val (x_as (v:=.int _ _) rfl) rfl ?_));refine L.nil (thn_n (W.seq (W.seq (W.region (L.val (x_mv (v:=.slice _ _ _) rfl) rfl ?_)))));refine L.val (x_len_slice Tryz.underlying31 rfl) rfl ?_;refine L.val (x_mv (v:=.int _ _) rfl) rfl ?_;refine L.nil (thn_n (W.block (W.loop (fun m' E w'=>∃ (k:Nat),m'=l.length - k∧E 0=.slice p l.length cap∧E 1=.func (.func 74) #[] #[]∧E 7=.int .i64 (l.length:Nat)∧E 8=.int .i64 (k:Nat)∧(Bel w w')∧(EdsAt A w' (.slice p l.length cap) l)∧(k≤l.length)∧((List.range k).any (fun i=>!mayE (l.getD i default))=false)) (l.length) ?_ ?_)))
  ·exact ⟨0,by omega,vi_,vi_,vi_,vi_,ao_,ao_,ao_,(by rfl)⟩
  ·rintro _ E wL9 ⟨k,em,e0,e1,e7,e8,hB,h,hk,hne⟩;rw [upd_self e0,upd_self e1,upd_self e7,upd_self e8];refine W.seq (W.region (L.val (x_lss rfl rfl) rfl ?_));refine L.nil (thn_n (W.seq (W.cond (b:=_) rfl (fun g9=>?_) (fun g9=>?_))))
   ·have h9:=of_decide_eq_true g9;have hlt:k<l.length:=by omega
    obtain ⟨-,b,o,rfl,-,hc⟩:=eds_elem h hlt;refine W.skip (thn_n (W.seq (W.block (W.seq (W.region (L.val (x_mv (v:=.int _ _) rfl) rfl ?_))))));refine L.val (x_as (v:=.int _ _) rfl) rfl ?_;refine L.nil (thn_n (W.seq (W.region (L.val (x_mv (v:=.func _ _ _) rfl) rfl ?_))));refine L.val (x_mv (v:=.slice _ _ _) rfl) rfl ?_;refine L.val (x_mv (v:=.int _ _) rfl) rfl ?_;refine L.val (x_ia (j:=k) Tryz.underlying31 kstob_sz70 rfl rfl om_ om_) rfl ?_;refine L.val (x_ldn (vs:=edV (l.getD k default)) kstob_ag70 rfl rfl hc) rfl ?_;refine L.ret (x_callv kstob_en74 rfl rfl) rfl (may1_ok (l.getD k default) _) ?_;rintro _ w16 ⟨rfl,hw⟩;have hB:=hB.carry hw;have h:=h.carry hw;refine L.nil (thn_n (W.cond (b:=_) rfl (fun g16=>?_) (fun g16=>?_)))
    ·have h16:=g16;refine W.seq (W.region (L.val (x_mv (v:=.int _ _) rfl) rfl ?_));refine L.val (x_as (v:=.int _ _) rfl) rfl ?_;refine L.nil (thn_n (W.ret (blk_r (thn_r (thn_r (blk_r (thn_r (fin_mk (.inr rfl) ?_))))))));refine ⟨⟨_,rfl,?_⟩,hB⟩;rw [← any_notmay];have e:(List.range l.length).any (fun i=>!mayE (l.getD i default))=true:=List.any_eq_true.2 ⟨k,List.mem_range.2 hlt,h16⟩;rw [e];exact decide_eq_true om_
    ·have h16:=g16;refine W.skip (blk_n (thn_n (W.region (L.val (x_add rfl rfl (wr64 om_)) rfl ?_))));refine L.val (x_mv (v:=.int _ _) rfl) rfl ?_;refine L.nil (thn_n ⟨rfl,?_⟩);refine ⟨_,?_,k+1,rfl,vi_,vi_,vi_,vi_,ao_,ao_,ao_,(by rw [anyE_succ,hne,Bool.false_or];exact h16)⟩;omega
   ·have h9:=dlt_f g9;refine W.exit (thn_x (thn_x (blk_hit ?_)));refine thn_n (W.seq (W.region (L.val (x_as (v:=.int _ _) rfl) rfl ?_)));refine L.nil (thn_n (W.ret (fin_mk (.inr rfl) ?_)));exact ⟨⟨_,rfl,by rw [← any_notmay,show l.length=k by omega,hne];rfl⟩,hB⟩
theorem may_ok (A:Nat→Prop) (v:Value) (l:List Ed) (w:World) (h:EdsAt A w v l):Ret Tryz.prog 40 #[v] w fun r w'=>r=.bool (mayL l)∧Bel w w':=by
  obtain ⟨p,cap,row,rfl,-⟩:=id h;have hc:Ret Tryz.prog 73 #[.slice p l.length cap,.func (.func 74) #[] #[]] w fun r w'=>r=.bool (!mayL l)∧Bel w w':=by
    refine ret_of_W Tryz.func73 rfl (Nat.le_of_ble_eq_true rfl) (res1 rfl) ?_;have hB:=Gr.refl (fun _=>False) w;refine W.seq (W.region (L.val (x_as (v:=.bool _) rfl) rfl ?_));refine L.nil (thn_n (W.seq (W.region (L.val (x_mv (v:=.slice _ _ _) rfl) rfl ?_))));refine L.val (x_mv (v:=.func _ _ _) rfl) rfl ?_;refine L.ret (x_call kstob_en104 rfl) rfl (ifed_ok A _ l w h) ?_;rintro _ w7 ⟨⟨i,rfl,hi⟩,hw⟩;have hB:=hB.carry hw;refine L.val (x_geq rfl rfl) rfl ?_;refine L.val (x_as (v:=.bool _) rfl) rfl ?_;refine L.nil (thn_n (W.ret (fin_mk (.inr rfl) ?_)));exact ⟨vb hi,hB⟩
  refine ret_of_W Tryz.func40 rfl (Nat.le_of_ble_eq_true rfl) (res1 rfl) ?_;have hB:=Gr.refl (fun _=>False) w;refine W.seq (W.region (L.val (x_as (v:=.bool _) rfl) rfl ?_));refine L.nil (thn_n (W.seq (W.region (L.val (x_mv (v:=.slice _ _ _) rfl) rfl ?_))));refine L.ret (x_call kstob_en73 rfl) rfl (hc) ?_;rintro _ w4 ⟨rfl,hw⟩;have hB:=hB.carry hw;refine L.val (x_not rfl) rfl ?_;refine L.val (x_as (v:=.bool _) rfl) rfl ?_;refine L.nil (thn_n (W.ret (fin_mk (.inr rfl) ?_)));rw [Bool.not_not];exact ⟨rfl,hB⟩
end Go.Gx
namespace Go.Gx
open Go.Proofs
theorem kstoc_ag70:aggT Tryz.prog 70 3=true:=by kernel_rfl
theorem kstoc_el9:elT Tryz.prog 9 1=true:=by kernel_rfl
theorem kstoc_en105:Go.Proofs.Enters Tryz.prog 105:=Go.Proofs.enters_of Tryz.func105 kr_ rfl
theorem kstoc_en110:Go.Proofs.Enters Tryz.prog 110:=Go.Proofs.enters_of Tryz.func110 kr_ rfl
theorem kstoc_en81:Go.Proofs.Enters Tryz.prog 81:=Go.Proofs.enters_of Tryz.func81 kr_ rfl
theorem kstoc_en89:Go.Proofs.Enters Tryz.prog 89:=Go.Proofs.enters_of Tryz.func89 kr_ rfl
theorem kstoc_en90:Go.Proofs.Enters Tryz.prog 90:=Go.Proofs.enters_of Tryz.func90 kr_ rfl
theorem kstoc_fo70_0:fieldOff Tryz.prog 70 0=some 0:=by kernel_rfl
theorem kstoc_fo70_1:fieldOff Tryz.prog 70 1=some 1:=by kernel_rfl
theorem kstoc_fo70_2:fieldOff Tryz.prog 70 2=some 2:=by kernel_rfl
theorem kstoc_oc4:oneCellT Tryz.prog 4=true:=by kernel_rfl
theorem kstoc_oc9:oneCellT Tryz.prog 9=true:=by kernel_rfl
theorem kstoc_sz70:(Tryz.prog.info? 70).map (·.size)=some 3:=by kernel_rfl
theorem kstoc_sz9:(Tryz.prog.info? 9).map (·.size)=some 1:=by kernel_rfl
theorem kstoc_zr146:(Tryz.prog.info? 146).bind (·.zero)=some (Value.agg [Value.pointer none,Value.slice none 0 0].toArray):=by kernel_rfl
theorem kstoc_zr70:(Tryz.prog.info? 70).bind (·.zero)=some (Value.agg [S [],S [],Value.bool false].toArray):=by kernel_rfl
theorem StrsAt.new {A:Nat→Prop} {w:World} {v:Value} {l:List Str} (h:StrsAt A w v l):StrsAt (fun k=>w.heap.size≤k) w v l:=(h.up).mono (fun _ _ hk=>.inr hk)
theorem texts_take {l:List Str} {i:Nat} (h:i<l.length):((l.take (i+1)).map textB).flatten=((l.take i).map textB).flatten++textB (l.getD i []):=by
  rw [take_snoc (d:=[]) h,List.map_append,List.flatten_append];simp
theorem texts_take_le (l:List Str) (i:Nat):((l.take i).map textB).flatten.length≤((l.map textB).flatten).length:=by
  conv=>rhs;rw [← List.take_append_drop i l,List.map_append,List.flatten_append,List.length_append]
  omega
theorem list_ok (A:Nat→Prop) (v:Value) (l:List Str) (w:World) (h:StrsAt A w v l) (hl:(listB l).length≤100000000):Ret Tryz.prog 81 #[v] w fun r w'=>r=S (listB l)∧Bel w w':=by
  have hs:=h.new;obtain ⟨pv,cv,rfl,a1,a2,a3,a4,-⟩:=id h;have hlL:(listB l).length=(numB l.length).length+((l.map textB).flatten).length:=by unfold listB;rw [List.length_append]
  refine ret_of_W Tryz.func81 rfl (Nat.le_of_ble_eq_true rfl) (res1 rfl) ?_;have hB:=Gr.refl (fun _=>False) w;refine W.seq (W.region (L.val (x_as (v:=S _) rfl) rfl ?_));refine L.nil (thn_n (W.seq (W.region (L.alloc (cs:=[Value.pointer none,Value.slice none 0 0]) kstoc_zr146 rfl rfl (fun w3 bx3 hw hz3=>?_)))));have hB:=hB.carry hw;have hs:=hs.carry hw;have hD:=builder_new bx3;refine L.nil (thn_n (W.seq (W.region (L.val (x_mv (v:=.slice _ _ _) rfl) rfl ?_))));refine L.val (x_len_slice Tryz.underlying22 rfl) rfl ?_;refine L.val (x_conv (k':=.u64) (by rw [Tryz.underlying3];rfl) Tryz.underlying80 rfl (wru64 om_)) rfl ?_;refine L.ret (x_call kstoc_en110 rfl) rfl (number_ok l.length om_ _) ?_;rintro _ w9 ⟨rfl,hw⟩;have hB:=hB.carry hw;have hs:=hs.carry hw;have hD:=hD.carry hw;refine L.ret (x_call kstoc_en89 rfl) rfl (wstr_ok _ _ _ _ hD (by simp only [List.length_nil];omega)) ?_;rintro _ w10 ⟨hD10,hG10⟩;refine L.nil (thn_n (W.seq (W.seq (W.region ?_))));have hB:=hB.step hG10 (fun i hi e=>by omega);have hs:=hs.carryR hG10 (fun k e=>e);have hD:BuilderIs w10 w.heap.size (numB l.length):=hD10;refine L.val (x_mv (v:=.slice _ _ _) rfl) rfl ?_;refine L.val (x_len_slice Tryz.underlying22 rfl) rfl ?_;refine L.val (x_mv (v:=.int _ _) rfl) rfl ?_;refine L.nil (thn_n (W.block (W.loop (fun m' E w'=>∃ (i:Nat),m'=l.length - i∧E 3=.pointer (some ⟨w.heap.size,0,none⟩)∧E 11=.slice pv l.length cv∧E 12=.int .i64 (l.length:Nat)∧E 13=.int .i64 (i:Nat)∧(i≤l.length)∧(Bel w w')∧(StrsAt (fun k=>w.heap.size≤k) w' (.slice pv l.length cv) l)∧(BuilderIs w' w.heap.size (numB l.length++((l.take i).map textB).flatten))) (l.length) ?_ ?_)))
  ·exact ⟨0,by omega,by first | rfl | exact vi om_ | exact vs (by first | assumption | (rw [hst];done) | (rw [hst];simp only [List.append_assoc])),by first | rfl | exact vi om_ | exact vs (by first | assumption | (rw [hst];done) | (rw [hst];simp only [List.append_assoc])),by first | rfl | exact vi om_ | exact vs (by first | assumption | (rw [hst];done) | (rw [hst];simp only [List.append_assoc])),by first | rfl | exact vi om_ | exact vs (by first | assumption | (rw [hst];done) | (rw [hst];simp only [List.append_assoc])),ao_,ao_,ao_,(by rw [List.take_zero,List.map_nil,List.flatten_nil,List.append_nil];exact hD)⟩
  ·rintro _ E wL14 ⟨i,em,e3,e11,e12,e13,hi,hB,hs,hD⟩;rw [upd_self e3,upd_self e11,upd_self e12,upd_self e13];refine W.seq (W.region (L.val (x_lss rfl rfl) rfl ?_));refine L.nil (thn_n (W.seq (W.cond (b:=_) rfl (fun g14=>?_) (fun g14=>?_))))
   ·have h14:=of_decide_eq_true g14;have hlt:i<l.length:=by omega
    obtain ⟨b,o,rfl,hc⟩:=hs.elem hlt;have hst:=texts_take hlt;have hle:=texts_take_le l (i+1);rw [hst,List.length_append] at hle;have htp:=textB_pos (l.getD i []);refine W.skip (thn_n (W.seq (W.block (W.seq (W.region (L.val (x_ia1 (j:=i) Tryz.underlying22 kstoc_sz9 rfl rfl om_ om_) rfl ?_))))));refine L.val (x_ld (v:=S _) kstoc_oc9 rfl hc) rfl ?_;refine L.val (x_as (v:=S _) rfl) rfl ?_;refine L.nil (thn_n (W.region (L.val (x_mv (v:=S _) rfl) rfl ?_)));refine L.ret (x_call kstoc_en105 rfl) rfl (text_ok (l.getD i []) om_ _) ?_;rintro _ w18 ⟨rfl,hw⟩;have hB:=hB.carry hw;have hs:=hs.carry hw;have hD:=hD.carry hw;refine L.ret (x_call kstoc_en89 rfl) rfl (wstr_ok _ _ _ _ hD (by rw [List.length_append];omega)) ?_;rintro _ w19 ⟨hD19,hG19⟩;refine L.nil (blk_n (thn_n (W.region ?_)));have hB:=hB.step hG19 (fun i hi e=>by omega);have hs:=hs.carryR hG19 (fun k e=>e);have hD2:BuilderIs w19 w.heap.size (numB l.length++((l.take (i+1)).map textB).flatten):=by rw [hst,← List.append_assoc];exact hD19
    refine L.val (x_add rfl rfl (wr64 om_)) rfl ?_;refine L.val (x_mv (v:=.int _ _) rfl) rfl ?_;refine L.nil (thn_n ⟨rfl,?_⟩);refine ⟨_,?_,i+1,rfl,by first | rfl | exact vi om_ | exact vs (by first | assumption | (rw [hst];done) | (rw [hst];simp only [List.append_assoc])),by first | rfl | exact vi om_ | exact vs (by first | assumption | (rw [hst];done) | (rw [hst];simp only [List.append_assoc])),by first | rfl | exact vi om_ | exact vs (by first | assumption | (rw [hst];done) | (rw [hst];simp only [List.append_assoc])),by first | rfl | exact vi om_ | exact vs (by first | assumption | (rw [hst];done) | (rw [hst];simp only [List.append_assoc])),ao_,ao_,ao_,(by exact hD2)⟩;omega
   ·have h14:=dlt_f g14;have hie:i=l.length:=by omega
    subst hie;rw [List.take_length] at hD;refine W.exit (thn_x (thn_x (blk_hit ?_)));refine thn_n (W.seq (W.region (L.ret (x_call kstoc_en90 rfl) rfl (bstr_ok _ _ _ hD) ?_)));rintro _ w21 ⟨rfl,hG21⟩;refine L.val (x_as (v:=S _) rfl) rfl ?_;refine L.nil (thn_n (W.ret (fin_mk (.inr rfl) ?_)));exact ⟨rfl,hB.step hG21 (fun i hi e=>by omega)⟩
theorem mem_bodyL {l:List Ed} {s:Str} (h:s∈bodyL l):(∃ e∈l,s=e.key∨s=e.val)∨s.length=1:=by
  unfold bodyL at h;rw [List.mem_flatten] at h;obtain ⟨r,hr,hs⟩:=h;obtain ⟨e,he,rfl⟩:=List.mem_map.1 hr;simp only [List.mem_cons,List.not_mem_nil,or_false] at hs;rcases hs with rfl | rfl | rfl
  · exact .inl ⟨e,he,.inl rfl⟩
  · exact .inr (by split <;> rfl)
  · exact .inl ⟨e,he,.inr rfl⟩
theorem bodyL_take {l:List Ed} {k:Nat} (h:k<l.length):bodyL (l.take (k+1))=bodyL (l.take k)++[(l.getD k default).key,if (l.getD k default).gone then [71] else [86],(l.getD k default).val]:=by
  unfold bodyL;rw [take_snoc (d:=default) h,List.map_append,List.flatten_append];simp
theorem body_ok (A:Nat→Prop) (v:Value) (l:List Ed) (w:World) (h:EdsAt A w v l) (hl:l.length≤10000000) (hb:(bodyB l).length≤100000000):Ret Tryz.prog 44 #[v] w fun r w'=>r=S (bodyB l)∧Bel w w':=by
  have hs:=(h.up).mono (A':=fun k=>w.heap.size≤k) (fun _ _ hk=>.inr hk);have hok:=eds_ok h;obtain ⟨pv,cv,row,rfl,a1,a2,a3,-⟩:=id h;refine ret_of_W Tryz.func44 rfl (Nat.le_of_ble_eq_true rfl) (res1 rfl) ?_;have hB:=Gr.refl (fun _=>False) w;refine W.seq (W.region (L.val (x_as (v:=S _) rfl) rfl ?_));refine L.nil (thn_n (W.seq (W.region (L.val (x_as (v:=.slice _ _ _) rfl) rfl ?_))));refine L.nil (thn_n (W.seq (W.seq (W.region (L.val (x_mv (v:=.slice _ _ _) rfl) rfl ?_)))));refine L.val (x_len_slice Tryz.underlying31 rfl) rfl ?_;refine L.val (x_mv (v:=.int _ _) rfl) rfl ?_;refine L.nil (thn_n (W.block (W.loop (fun m' E w'=>∃ (i:Nat) (vo:Value),m'=l.length - i∧E 3=vo∧E 7=.slice pv l.length cv∧E 8=.int .i64 (l.length:Nat)∧E 9=.int .i64 (i:Nat)∧(i≤l.length)∧(Bel w w')∧(EdsAt (fun k=>w.heap.size≤k) w' (.slice pv l.length cv) l)∧(Own w' w.heap.size 9 1 vo (3 * i) ((bodyL (l.take i)).map S))) (l.length) ?_ ?_)))
  ·exact ⟨0,.slice none 0 0,by omega,by first | rfl | exact vi om_ | exact vs (by first | assumption | (rw [hst];done) | (rw [hst];simp only [List.append_assoc])),by first | rfl | exact vi om_ | exact vs (by first | assumption | (rw [hst];done) | (rw [hst];simp only [List.append_assoc])),by first | rfl | exact vi om_ | exact vs (by first | assumption | (rw [hst];done) | (rw [hst];simp only [List.append_assoc])),by first | rfl | exact vi om_ | exact vs (by first | assumption | (rw [hst];done) | (rw [hst];simp only [List.append_assoc])),ao_,ao_,ao_,(by exact own_nil)⟩
  ·rintro _ E wL10 ⟨i,vo,em,e3,e7,e8,e9,hi,hB,hs,hO⟩;rw [upd_self e3,upd_self e7,upd_self e8,upd_self e9];refine W.seq (W.region (L.val (x_lss rfl rfl) rfl ?_));refine L.nil (thn_n (W.seq (W.cond (b:=_) rfl (fun g10=>?_) (fun g10=>?_))))
   ·have h10:=of_decide_eq_true g10;have hlt:i<l.length:=by omega
    obtain ⟨hek,b,o,rfl,-,hc⟩:=eds_elem hs hlt;obtain ⟨av,cv2,ev,-⟩:=own_shape hO;subst ev;have hst:=bodyL_take hlt;have hsL:=hB.size;have hql:=fun j hj=>Own.lt hO (j:=j) hj
    refine W.skip (thn_n (W.seq (W.block (W.seq (W.region (L.val (x_ia (j:=i) Tryz.underlying31 kstoc_sz70 rfl rfl om_ om_) rfl ?_))))));refine L.val (x_ldn (vs:=edV (l.getD i default)) kstoc_ag70 rfl rfl hc) rfl ?_;refine L.alloc (cs:=[S [],S [],Value.bool false]) kstoc_zr70 rfl rfl (fun w5 bx5 hw hz5=>?_);have hB:=hB.carry hw;have hs:=hs.carry hw;have hO:=hO.carry hw;refine L.setRow kstoc_ag70 rfl rfl bx5 rfl rfl (edV_one _) (fun wl10 bx5 hw hzl10=>?_);have hsz:=hB.size;have hB:=hB.set hw hsL;have hs:=hs.carryR hw (fun k e=>by have e:k=wL10.heap.size:=e;omega);have hO:=hO.carryR hw (fun j hj e=>by have e:j=wL10.heap.size:=e;have:=(hql j hj).2;omega);refine L.nil (thn_n (W.seq (W.region (L.val (x_as (v:=S _) rfl) rfl ?_))));refine L.nil (thn_n (W.cut (fun D' E' w'=>D'=[]∧E' 3=.slice av (3 * i) cv2∧E' 5=.pointer (some ⟨wL10.heap.size,0,none⟩)∧E' 7=.slice (some ⟨b,o,none⟩) l.length cv∧E' 8=.int .i64 (l.length:Nat)∧E' 9=.int .i64 (i:Nat)∧E' 6=S (if (l.getD i default).gone then [71] else [86])∧Bel w w'∧EdsAt (fun k=>w.heap.size≤k) w' (.slice (some ⟨b,o,none⟩) l.length cv) l∧Own w' w.heap.size 9 1 (.slice av (3 * i) cv2) (3 * i) ((bodyL (l.take i)).map S)∧Box w' wL10.heap.size 70 (edV (l.getD i default))∧wL10.heap.size<w'.heap.size) ?_ ?_))
    ·refine W.seq (W.region (L.val (x_fa kstoc_fo70_2 rfl) rfl ?_));refine L.val (x_ld (v:=.bool _) kstoc_oc4 rfl (bx5.cell0 rfl)) rfl ?_;refine L.nil (thn_n (W.cond (b:=_) rfl (fun g14=>?_) (fun g14=>?_)))
     ·have h14:=g14;refine W.region (L.val (x_as (v:=S _) rfl) rfl ?_);refine L.nil (thn_n ?_);exact ⟨rfl,rfl,rfl,rfl,rfl,rfl,(by have g:(l.getD i default).gone=true:=g14;rw [g];rfl),hB,hs,hO,bx5,bx5.lt⟩
     ·have h14:=g14;refine W.skip (thn_n ?_);exact ⟨rfl,rfl,rfl,rfl,rfl,rfl,(by have g:(l.getD i default).gone=false:=g14;rw [g];rfl),hB,hs,hO,bx5,bx5.lt⟩
    ·rintro D' E w15 ⟨rfl,e3,e5,e7,e8,e9,e6,hB,hs,hO,bx5,hlw⟩;rw [upd_self e3,upd_self e5,upd_self e7,upd_self e8,upd_self e9,upd_self e6];refine W.region (L.val (x_mv (v:=.slice _ _ _) rfl) rfl ?_);refine L.val (x_fa kstoc_fo70_0 rfl) rfl ?_;refine L.val (x_ld (v:=S _) kstoc_oc9 rfl (bx5.cell0 rfl)) rfl ?_;refine L.val (x_mv (v:=S _) rfl) rfl ?_;refine L.val (x_fa kstoc_fo70_1 rfl) rfl ?_;refine L.val (x_ld (v:=S _) kstoc_oc9 rfl (bx5.cell0 rfl)) rfl ?_;refine L.bs (sz:=1) (cells:=[S (l.getD i default).key,S (if (l.getD i default).gone then [71] else [86]),S (l.getD i default).val]) Tryz.underlying22 kstoc_el9 rfl rfl rfl rfl (fun w21 bx21 hw hz21=>?_);have hB:=hB.carry hw;have hs:=hs.carry hw;have hO:=hO.carry hw;have bx5:=bx5.carry hw;refine L.appendN (m:=3) Tryz.underlying22 kstoc_el9 rfl rfl rfl hO rfl (holdsN_box bx21) (by simp [Value.oneCell',S]) om_ om_ (fun v22 w22 hO22 hg hob22=>?_);obtain ⟨a22,c22,e22,-⟩:=own_shape hO22;subst e22;have hB:=hB.step hg (fun i hi e=>by have:=(Own.lt hO e).1;omega);have hs:=hs.carryR hg (fun k e=>(Own.lt hO e).1);have hO2:Own w22 w.heap.size 9 1 (.slice a22 (3 * i+3) c22) (3 * (i+1)) ((bodyL (l.take (i+1))).map S):=by
       rw [hst,List.map_append];exact hO22
     refine L.val (x_as (v:=.slice _ _ _) rfl) rfl ?_;refine L.nil (blk_n (thn_n (W.region (L.val (x_add rfl rfl (wr64 om_)) rfl ?_))));refine L.val (x_mv (v:=.int _ _) rfl) rfl ?_;refine L.nil (thn_n ⟨rfl,?_⟩);refine ⟨_,?_,i+1,_,rfl,by first | rfl | exact vi om_ | exact vs (by first | assumption | (rw [hst];done) | (rw [hst];simp only [List.append_assoc])),by first | rfl | exact vi om_ | exact vs (by first | assumption | (rw [hst];done) | (rw [hst];simp only [List.append_assoc])),by first | rfl | exact vi om_ | exact vs (by first | assumption | (rw [hst];done) | (rw [hst];simp only [List.append_assoc])),by first | rfl | exact vi om_ | exact vs (by first | assumption | (rw [hst];done) | (rw [hst];simp only [List.append_assoc])),ao_,ao_,ao_,(by exact hO2)⟩;omega
   ·have h10:=dlt_f g10;have hie:i=l.length:=by omega
    subst hie;rw [List.take_length] at hO;have hbl:=bodyL_len l;rw [← hbl] at hO;obtain ⟨av,cv2,ev,-⟩:=own_shape hO;subst ev;have hS:StrsAt (fun k=>k<w.heap.size) _ (.slice av (bodyL l).length cv2) (bodyL l):=strs_done hO om_ (fun x hx=>by
      rcases mem_bodyL hx with ⟨e,he,rfl | rfl⟩ | h1
      · exact (hok e he).1
      · exact (hok e he).2
      · omega) (fun j hj=>by omega)
    refine W.exit (thn_x (thn_x (blk_hit ?_)));refine thn_n (W.seq (W.region (L.val (x_mv (v:=.slice _ _ _) rfl) rfl ?_)));refine L.ret (x_call kstoc_en81 rfl) rfl (list_ok _ _ _ _ hS hb) ?_;rintro _ w25 ⟨rfl,hw⟩;have hB:=hB.carry hw;have hs:=hs.carry hw;have hO:=hO.carry hw;refine L.val (x_as (v:=S _) rfl) rfl ?_;refine L.nil (thn_n (W.ret (fin_mk (.inr rfl) ?_)));exact ⟨rfl,hB⟩
end Go.Gx
namespace Go.Gx
open Go.Proofs
theorem kmapst_oc95:oneCellT Tryz.prog 95=true:=by kernel_rfl
theorem clone_none (w:World):Ret Tryz.prog 42 #[.map none] w fun v w'=>v=.map none∧w'=w:=by
  refine ret_of_W Tryz.func42 rfl (Nat.le_of_ble_eq_true rfl) (res1 rfl) ?_;refine W.seq (W.region (L.val (x_as (v:=.map _) rfl) rfl ?_));refine L.nil (thn_n (W.seq (W.seq (W.region (L.val (x_mv (v:=.map _) rfl) rfl ?_)))));refine L.val (x_eqlm Tryz.underlying95 rfl rfl) rfl ?_;refine L.nil (thn_n (W.cond (b:=_) rfl (fun g4=>?_) (fun g4=>?_)))
  ·have h4:=g4;refine W.seq (W.region (L.val (x_as (v:=.map _) rfl) rfl ?_));refine L.nil (thn_n (W.ret (thn_r (fin_mk (.inr rfl) ?_))));exact ⟨rfl,rfl⟩
  ·have h4:=g4;cases g4
theorem clone_map (b:Nat) (l:List (Str × Value)) (w:World) (h:MapAtK S (fun _=>True) w b l):
    Ret Tryz.prog 42 #[.map (some b)] w fun v w'=>(v=.map (some w.heap.size)∧MapAtK S (fun _=>True) w' w.heap.size l)∧Bel w w':=by
  obtain ⟨es,c,hb,hes⟩:=id h;refine ret_of_W Tryz.func42 rfl (Nat.le_of_ble_eq_true rfl) (res1 rfl) ?_;refine W.seq (W.region (L.val (x_as (v:=.map _) rfl) rfl ?_));refine L.nil (thn_n (W.seq (W.seq (W.region (L.val (x_mv (v:=.map _) rfl) rfl ?_)))));refine L.val (x_eqlm Tryz.underlying95 rfl rfl) rfl ?_;refine L.nil (thn_n (W.cond (b:=_) rfl (fun g4=>?_) (fun g4=>?_)))
  ·have h4:=g4;cases g4
  ·have h4:=g4;refine W.skip (thn_n (W.seq (W.region (L.val (x_mv (v:=.map _) rfl) rfl ?_))));refine L.val (x_iface Tryz.underlying95 rfl rfl) rfl ?_;refine L.val (x_extn (e:=Extern.MapsClone.clone) Tryz.func80 kr_ kr_ kr_ kr_ rfl (run_clone _ hb)) rfl ?_;refine L.val (x_tasm Tryz.underlying95 rfl) rfl ?_;refine L.val (x_as (v:=.map _) rfl) rfl ?_;refine L.nil (thn_n (W.ret (fin_mk (.inr rfl) ?_)));exact ⟨⟨rfl,es,c,World.alloc_heap_new w _,hes⟩,bel_alloc _ _⟩
theorem keys_itT (l Bs n₀ b:Nat) (ks:List (Str × Value)) (J Jx:List Str→World→Prop) (w:World) (hAb:AbidesFrom w.heap.size J)
    (hY:∀ pre x W,J pre W→pre.length<ks.length→YieldAt Fence.wide 0 Tryz.prog l #[S x] W fun e W'=>
      (e=.returned (.bool true)∧J (pre++[x]) W'∧KpB n₀ W W')∨(e=.returned (.bool false)∧Jx (pre++[x]) W'))
    (hBs:w.cell? ⟨Bs,0,none⟩=some (.map (some b))) (hs:MapAt w b ks) (h0:J [] w):
    Ret Tryz.prog 122 #[.func (.yield l) #[] #[],.pointer (some ⟨Bs,0,none⟩)] w fun _ W'=>(∃ xs:List Str,xs.Perm (ks.map (·.1))∧J xs W')∨(∃ pre:List Str,True∧Jx pre W'):=by
  refine ret_of_W Tryz.func122 rfl (Nat.le_of_ble_eq_true rfl) (res0 rfl) ?_;refine W.seq (W.region (L.val (x_ld (v:=.map _) kmapst_oc95 rfl hBs) rfl ?_));refine L.rangeM Tryz.underlying95 rfl rfl hs (fun w5 it5 gn5 hw hz5=>?_);have hJ:=hAb _ _ _ _ h0 gn5 (fun r e=>by cases e);refine L.nil (thn_n (W.block (W.loop (fun m' E w'=>∃ (vis:List (Str × Value)) (k:Nat),m'=ks.length - k∧E 0=.func (.yield l) #[] #[]∧E 5=.pointer (some ⟨w.heap.size,0,none⟩)∧(J (vis.map (·.1)) w')∧(IterAt w' w.heap.size b ks vis)∧(k=vis.length)) (ks.length) ?_ ?_)))
  ·exact ⟨[],0,by omega,vi_,vi_,(by exact hJ),ao_,(by rfl)⟩
  ·rintro _ E wL6 ⟨vis,k,em,e0,e5,hJ,it5,hk⟩;rw [upd_self e0,upd_self e5];refine W.seq (W.region (L.nextM rfl rfl it5 (fun hp6=>?_) (fun kv6 w6 hkv6 hlt6 it5 gn6 hw hz6=>?_)))
   ·refine L.val (x_ext (v:=.bool _) rfl rfl) rfl ?_;refine L.nil (thn_n (W.seq (W.cond (b:=false) rfl (fun h=>nomatch h) (fun _=>?_))));refine W.exit (thn_x (thn_x (blk_hit ?_)));refine fin_mk (.inl rfl) ?_;exact .inl ⟨_,hp6.map _,hJ⟩
   ·have hwk:=IterAt.walk (r:=w.heap.size) ‹IterAt wL6 w.heap.size b ks vis›;have hJ:=hAb _ _ _ _ hJ gn6 (fun r e=>by cases e;exact ⟨Nat.le_refl _,hwk⟩);refine L.val (x_ext (v:=.bool _) rfl rfl) rfl ?_;refine L.nil (thn_n (W.seq (W.cond (b:=true) rfl (fun _=>?_) (fun h=>nomatch h))));refine W.skip (thn_n (W.block (W.seq (W.region (L.val (x_entry rfl it5) rfl ?_)))));refine L.val (x_ext (v:=S _) rfl rfl) rfl ?_;refine L.val (x_as (v:=S _) rfl) rfl ?_;refine L.nil (thn_n (W.seq (W.wide (m:=1) (WI.region ?_))));refine LI.val (fun _=>trivial) (fun _ h=>by cases h) (x_mv (v:=.func _ _ _) rfl) rfl ?_;refine LI.val (fun _=>trivial) (fun _ h=>by cases h) (x_mv (v:=S _) rfl) rfl ?_;refine LI.yield (R:=fun e W'=>∃ z,e=.returned (.bool z)∧(z=true→J (vis.map (·.1)++[kv6.1]) W'∧KpB n₀ w6 W')∧(z=false→Jx (vis.map (·.1)++[kv6.1]) W')) (fun _=>trivial) rfl rfl rfl rfl ((hY (vis.map (·.1)) kv6.1 w6 hJ (by rw [List.length_map];exact hlt6)).mono ?_) (fun e w' ⟨z,h,_⟩=>⟨_,h⟩) ?_
    · rintro e W' (⟨rfl,a1,a2⟩ | ⟨rfl,a1⟩)
      · exact ⟨true,rfl,fun _=>⟨a1,a2⟩,fun h=>by cases h⟩
      · exact ⟨false,rfl,fun h=>(by cases h),fun _=>a1⟩
    rintro u w12 ⟨z,hz,r1,r2⟩;cases hz;refine LI.val (fun _=>trivial) (fun _ h=>by cases h) (x_not rfl) rfl ?_;refine LI.nil ?_;refine thn_n (W.cond (b:=_) rfl (fun g13=>?_) (fun g13=>?_))
    ·have h13:=(not_t g13);refine W.ret (blk_r (thn_r (blk_r (fin_mk (.inr rfl) ?_))));exact .inr ⟨_,trivial,r2 (by simpa using g13)⟩
    ·have h13:=(not_f g13);have h13:=g13;have it5:=it5.keep (r1 (by simpa using h13)).2.2;refine W.skip (blk_n (thn_n ⟨rfl,?_⟩));refine ⟨_,?_,vis++[kv6],k+1,rfl,vi_,vi_,(by rw [List.map_append];exact (r1 (by simpa using h13)).1),ao_,(by simp [hk])⟩;omega
theorem keys_seqT (Bs n₀ b:Nat) (ks:List (Str × Value)) (w:World) (hBs:Bs<w.heap.size) (hc:w.cell? ⟨Bs,0,none⟩=some (.map (some b))) (hs:MapAt w b ks):
    SeqStopsK Fence.wide 1 Tryz.prog 122 #[.pointer (some ⟨Bs,0,none⟩)] (fun x:Str=>#[S x]) (KpB n₀) (fun xs=>xs.Perm (ks.map (·.1))) (fun _=>True) ks.length w:=by
  intro l J Jx w1 hW hA _ hY h0;have hlt:=hs.lt;have hs1:MapAt w1 b ks:=by
    obtain ⟨es,c,h,hm⟩:=hs;exact ⟨es,c,(hW.block b hlt).trans h,hm⟩
  have hc1:=(hW.cell (p:=⟨Bs,0,none⟩) hBs).trans hc;rw [show (#[Value.func (.yield l) #[] #[]]++#[Value.pointer (some ⟨Bs,0,none⟩)]:Array Value)=#[.func (.yield l) #[] #[],.pointer (some ⟨Bs,0,none⟩)] from rfl];refine callsIn_wide.2 (Calls.mono (keys_itT l Bs n₀ b ks J Jx w1 hA hY hc1 hs1 h0) ?_);rintro e w2 ⟨u,rfl,h⟩;exact ⟨⟨u,rfl⟩,h⟩
theorem L.rangeN0 {P:Program} {n:Nat} {Q:Post} {D:List Deferred} {E:Env} {w:World} {t kt et ty:TypeId} {ops:Array Oper} {r:List Oper} {d:Nat} {x:Operand} {p:String} {af:Array Edge} (hm:P.underlying t=some (.map kt et)) (hx:ev E x=.map none) (hd:Nat.blt d n=true)
    (kk:∀ w1,w1.heap[w.heap.size]? = some (.mapIter none 0 #[] 0)→w.grownBy w1 none→Bel w w1→w1.heap.size=w.heap.size+1→L P n ops Q r D (upd E d (.pointer (some ⟨w.heap.size,0,none⟩))) w1):
    L P n ops Q (⟨some d,.range t x,ty,p,af,none⟩ :: r) D E w:=by
  have hX:X P (.range t x) ty E w (.pointer (some ⟨w.heap.size,0,none⟩)) (w.alloc (.mapIter none 0 #[] 0)):=by
    unfold X;simp [execOp,hx,Instr.range,run_underlying hm,Result.andThen]
  have hg:=World.grownBy_alloc w (.mapIter none 0 #[] 0) none;exact L.val hX hd (kk _ (World.alloc_heap_new w _) hg ((gr_of hg).mono (fun _ _ h=>by cases h)) (by simp))
theorem run_getObj_it {P:Program} {w:World} {b:Nat} (h:w.heap[b]? = some (.mapIter none 0 #[] 0)):(getObj b).run P w=.ok (.mapIter none 0 #[] 0) w:=by simp [getObj,Sem.run,h]
theorem x_nextN0 {P:Program} {E:Env} {w:World} {ty:TypeId} {x:Operand} {rb:Nat} (hx:ev E x=.pointer (some ⟨rb,0,none⟩)) (h:w.heap[rb]? = some (.mapIter none 0 #[] 0)):X P (.next x false) ty E w (.tuple #[.bool false]) w:=by
  unfold X;simp [execOp,hx,Instr.next,run_getObj_it h,Result.andThen]
theorem keys_it0 (l Bs:Nat) (J Jx:List Str→World→Prop) (w:World) (hAb:AbidesFrom w.heap.size J)
    (hBs:w.cell? ⟨Bs,0,none⟩=some (.map none)) (h0:J [] w):
    Ret Tryz.prog 122 #[.func (.yield l) #[] #[],.pointer (some ⟨Bs,0,none⟩)] w fun _ W'=>(∃ xs:List Str,xs.Perm []∧J xs W')∨(∃ pre:List Str,True∧Jx pre W'):=by
  refine ret_of_W Tryz.func122 rfl (Nat.le_of_ble_eq_true rfl) (res0 rfl) ?_;refine W.seq (W.region (L.val (x_ld (v:=.map _) kmapst_oc95 rfl hBs) rfl ?_));refine L.rangeN0 Tryz.underlying95 rfl rfl (fun w5 it5 gn5 hw hz5=>?_);have hJ:=hAb _ _ _ _ h0 gn5 (fun r e=>by cases e);refine L.nil (thn_n (W.block (W.loop (fun m' E w'=>∃ (k:Nat),m'=0 - k∧E 0=.func (.yield l) #[] #[]∧E 5=.pointer (some ⟨w.heap.size,0,none⟩)∧(J [] w')∧(w'.heap[w.heap.size]? = some (.mapIter none 0 #[] 0))) (0) ?_ ?_)))
  ·exact ⟨0,by omega,vi_,vi_,ao_,ao_⟩
  ·rintro _ E wL6 ⟨k,em,e0,e5,hJ,it5⟩;rw [upd_self e0,upd_self e5];refine W.seq (W.region (L.val (x_nextN0 rfl it5) rfl ?_));refine L.val (x_ext (v:=.bool _) rfl rfl) rfl ?_;refine L.nil (thn_n (W.seq (W.cond (b:=_) rfl (fun g7=>?_) (fun g7=>?_))))
   ·have h7:=g7;cases g7
   ·have h7:=g7;refine W.exit (thn_x (thn_x (blk_hit ?_)));refine fin_mk (.inl rfl) ?_;exact .inl ⟨[],List.Perm.refl _,hJ⟩
theorem keys_seq0 (Bs n₀ : Nat) (w:World) (hBs:Bs<w.heap.size) (hc:w.cell? ⟨Bs,0,none⟩=some (.map none)):
    SeqStopsK Fence.wide 1 Tryz.prog 122 #[.pointer (some ⟨Bs,0,none⟩)] (fun x:Str=>#[S x]) (KpB n₀) (fun xs=>xs.Perm []) (fun _=>True) 0 w:=by
  intro l J Jx w1 hW hA _ hY h0;have hc1:=(hW.cell (p:=⟨Bs,0,none⟩) hBs).trans hc;rw [show (#[Value.func (.yield l) #[] #[]]++#[Value.pointer (some ⟨Bs,0,none⟩)]:Array Value)=#[.func (.yield l) #[] #[],.pointer (some ⟨Bs,0,none⟩)] from rfl];refine callsIn_wide.2 (Calls.mono (keys_it0 l Bs J Jx w1 hA hc1 h0) ?_);rintro e w2 ⟨u,rfl,h⟩;exact ⟨⟨u,rfl⟩,h⟩
theorem keys_any (m:Option Nat) (w:World):Ret Tryz.prog 94 #[.map m] w fun r w'=>r=.func (.func 122) #[] #[.pointer (some ⟨w.heap.size,0,none⟩)]∧Box w' w.heap.size 95 [.map m]∧Bel w w':=by
  refine ret_of_W Tryz.func94 rfl (Nat.le_of_ble_eq_true rfl) (res1 rfl) ?_;have hB:=Gr.refl (fun _=>False) w;refine W.seq (W.region (L.box (cs:=[.map m]) rfl rfl (fun w1 bx1 hw hz1=>?_)));have hB:=hB.carry hw;refine L.val (x_as (v:=_) rfl) rfl ?_;refine L.nil (thn_n (W.seq (W.region (L.val (x_mkfn rfl rfl) rfl ?_))));refine L.val (x_as (v:=_) rfl) rfl ?_;refine L.nil (thn_n (W.ret (fin_mk (.inr rfl) ?_)));exact ⟨rfl,bx1,hB⟩
theorem keys_has {n0 Bs n₀ : Nat} {m:Option Nat} {G:List Ed} {w:World} (hm:MapHas n0 w m G) (hG:Rises G) (hBs:Bs<w.heap.size) (hc:w.cell? ⟨Bs,0,none⟩=some (.map m)):
    SeqStopsK Fence.wide 1 Tryz.prog 122 #[.pointer (some ⟨Bs,0,none⟩)] (fun x:Str=>#[S x]) (KpB n₀) (fun xs=>xs.Perm (G.map (·.key))) (fun _=>True) (G.map (·.key)).length w:=by
  rcases hm with ⟨rfl,rfl⟩ | ⟨mb,l,rfl,-,hH⟩
  · exact keys_seq0 Bs n₀ w hBs hc
  · obtain ⟨h1,h2⟩:=hH.keys hG;have hGn:(G.map (·.key)).Nodup:=(rises_keys hG).imp fun {a b} h e=>by rw [e,lt_irr] at h;cases h
    have hp:(l.map (·.1)).Perm (G.map (·.key)):=(List.perm_ext_iff_of_nodup h1 hGn).2 h2;have hs:=keys_seqT Bs n₀ mb l w hBs hc hH.map.str;have hl:l.length=(G.map (·.key)).length:=by have:=hp.length_eq;rwa [List.length_map] at this
    rw [hl] at hs;intro l' J Jx w1 a1 a2 a3 a4 a5;refine callsIn_wide.2 (Calls.mono (callsIn_wide.1 (hs l' J Jx w1 a1 a2 a3 a4 a5)) ?_);rintro e w2 ⟨h,h2⟩;exact ⟨h,h2.imp (fun ⟨xs,hx,hj⟩=>⟨xs,hx.trans hp,hj⟩) id⟩
end Go.Gx
