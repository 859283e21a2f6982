/- Items laid: the program's. Conditions: none. -/
import Derived.Test.YtcncoaabbedhfaaGreatCaOctL
import Derived.Test.YtcncoaabbedhfaaGreatCaTake
import Derived.Test.YtcncoaabbedhfaaGreatCaSort3
import Derived.Test.YtcncoaabbedhfaaGreatCaText
namespace Go.Gx
open Go.Proofs
theorem kifd_ag41:aggT Tryz.prog 41 5=true:=by kernel_rfl
theorem kifd_ag43:aggT Tryz.prog 43 7=true:=by kernel_rfl
theorem kifd_en13:Go.Proofs.Enters Tryz.prog 13:=Go.Proofs.enters_of Tryz.func13 kr_ rfl
theorem kifd_en24:Go.Proofs.Enters Tryz.prog 24:=Go.Proofs.enters_of Tryz.func24 kr_ rfl
theorem kifd_en25:Go.Proofs.Enters Tryz.prog 25:=Go.Proofs.enters_of Tryz.func25 kr_ rfl
theorem kifd_en26:Go.Proofs.Enters Tryz.prog 26:=Go.Proofs.enters_of Tryz.func26 kr_ rfl
theorem kifd_en27:Go.Proofs.Enters Tryz.prog 27:=Go.Proofs.enters_of Tryz.func27 kr_ rfl
theorem kifd_en28:Go.Proofs.Enters Tryz.prog 28:=Go.Proofs.enters_of Tryz.func28 kr_ rfl
theorem kifd_fo43_0:fieldOff Tryz.prog 43 0=some 0:=by kernel_rfl
theorem kifd_fo43_1:fieldOff Tryz.prog 43 1=some 1:=by kernel_rfl
theorem kifd_fo43_2:fieldOff Tryz.prog 43 2=some 2:=by kernel_rfl
theorem kifd_mixed:Tryz.prog.follows .mixedOrders=true:=by kernel_rfl
theorem kifd_oc3:oneCellT Tryz.prog 3=true:=by kernel_rfl
theorem kifd_oc9:oneCellT Tryz.prog 9=true:=by kernel_rfl
theorem kifd_sz43:(Tryz.prog.info? 43).map (·.size)=some 7:=by kernel_rfl
theorem kifd_zr43:(Tryz.prog.info? 43).bind (·.zero)=some (Value.agg [Value.int .i64 0,S [],Value.int .i64 0,S [],S [],Value.slice none 0 0,Value.slice none 0 0].toArray):=by kernel_rfl
theorem kifd_zr53:(Tryz.prog.info? 53).bind (·.zero)=some (Value.agg [Value.pointer none,Value.slice none 0 0].toArray):=by kernel_rfl
theorem item_fits {x:It} (h:itemOk x=true) (hk:x.kind≠2):x.sh.size≤400∧x.sh.allB fitsS=true∧checkS x.sh=0∧x.sh.sort=x.sh∧closedS x.sh=true:=by
  unfold itemOk at h;rw [if_neg hk] at h;split at h
  · rw [Bool.and_eq_true] at h;have h0:=h.1;have h1:=h.1;unfold closedS at h1;rw [Bool.and_eq_true] at h1;have hc:=of_decide_eq_true h1.1;have h2:=eqS_iff.1 h.2;unfold sortS at h2;rw [if_pos hc] at h2;have hz:=check_zero hc;exact ⟨hz.1,hz.2.2,hc,h2,h0⟩
  · cases h
theorem itB_len {x:It} (h:itemOk x=true):(itB x).length≤80000:=by
  obtain ⟨p1,p2,p3,-,-⟩:=item_props h;have e1:=numB_len (n:=x.kind.toNat) om_;have e2:=numB_len (n:=x.name.length) om_;unfold itB textB;simp only [List.length_append];split
  · simp only [List.length_nil];omega
  · rename_i hk
    obtain ⟨h1,h2,-⟩:=item_fits h hk;have:=bytes_len x.sh h1 h2;omega
theorem its_take {l:List It} {i:Nat} (h:i<l.length):((l.take (i+1)).map itB).flatten=((l.take i).map itB).flatten++itB (l.getD i default):=by
  rw [take_snoc (d:=default) h,List.map_append,List.flatten_append];simp
theorem its_len {l:List It} (h:∀ x∈l,itemOk x=true):((l.map itB).flatten).length≤80000 * l.length:=by
  induction l with
  | nil=>simp
  | cons x l ih=>
    have h1:=itB_len (h x (by simp));have h2:=ih (fun y hy=>h y (List.mem_cons_of_mem _ hy));simp only [List.map_cons,List.flatten_cons,List.length_append,List.length_cons];omega
theorem its_take_le {l:List It} (h:∀ x∈l,itemOk x=true) (hl:l.length≤60) (i:Nat):(((l.take i).map itB).flatten).length≤4800000:=by
  have h1:=its_len (l:=l.take i) (fun x hx=>h x (List.mem_of_mem_take hx));rw [List.length_take] at h1;have:min i l.length≤60:=by omega
  omega
theorem mem_getD {l:List It} {i:Nat} (h:i<l.length):l.getD i default∈l:=by
  rw [List.getD_eq_getElem?_getD,List.getElem?_eq_getElem h];exact List.getElem_mem h
theorem encP_ok (A0:Nat→Prop) (v:Value) (l:List It) (w:World) (h0:ItsAt A0 w v l):
    Ret Tryz.prog 11 #[v] w fun r w'=>r=.tuple #[S (encI l).1,.int .i64 (encI l).2]∧Bel w w':=by
  obtain ⟨A,h,hU⟩:∃ A:Nat→Prop,ItsAt A w v l∧(∀ k,w.heap.size≤k→A k):=⟨_,RecsAt.up h0,fun _=>.inr⟩;obtain ⟨p,cap,row,rfl,p1,p2,p3,hr⟩:=id h;refine ret_of_W Tryz.func11 rfl (Nat.le_of_ble_eq_true rfl) (res2 rfl) ?_;have hB:=Gr.refl (fun _=>False) w;refine W.seq (W.region (L.val (x_as (v:=S _) rfl) rfl ?_));refine L.val (x_as (v:=.int _ _) rfl) rfl ?_;refine L.nil (thn_n (W.seq (W.seq (W.region (L.val (x_mv (v:=.slice _ _ _) rfl) rfl ?_)))));refine L.ret (x_call kifd_en13 rfl) rfl (checkP_ok A _ l _ h) ?_;rintro _ w9 ⟨rfl,hw⟩;have hB:=hB.carry hw;have hr:=hr.carry hw;refine L.val (x_as (v:=.int _ _) rfl) rfl ?_;refine L.nil (thn_n (W.seq (W.region (L.val (x_mv (v:=.int _ _) rfl) rfl ?_))));refine L.val (x_neq rfl rfl) rfl ?_;refine L.nil (thn_n (W.cond (b:=_) rfl (fun g11=>?_) (fun g11=>?_)))
  ·have h11:=dne_t g11;have hck:¬ checkI l=true:=fun e=>h11 (if_pos e)
   refine W.seq (W.region (L.val (x_mv (v:=.int _ _) rfl) rfl ?_));refine L.val (x_as (v:=S _) rfl) rfl ?_;refine L.val (x_as (v:=.int _ _) rfl) rfl ?_;refine L.nil (thn_n (W.ret (thn_r (fin_mk (.inr rfl) ?_))));unfold encI;rw [if_neg hck];exact ⟨by rw [if_neg hck];rfl,hB⟩
  ·have h11:=dne_f g11;have hck:checkI l=true:=Classical.byContradiction fun e=>by rw [if_neg e] at h11;exact absurd h11 (by decide)
   obtain ⟨h60,hit⟩:=check_items hck;have hs9:=hB.size;refine W.skip (thn_n (W.seq (W.region (L.alloc (cs:=[Value.pointer none,Value.slice none 0 0]) kifd_zr53 rfl rfl (fun w5 bx5 hw hz5=>?_)))));have hB:=hB.carry hw;have hr:=hr.carry hw;obtain ⟨b,hb⟩:∃ b,b=w9.heap.size:=⟨_,rfl⟩;rw [← hb] at bx5 ⊢;have hD:=builderV_new bx5;have hwb:w.heap.size≤b:=by omega
   refine L.nil (thn_n (W.seq (W.region (L.val (x_mv (v:=.slice _ _ _) rfl) rfl ?_))));refine L.val (x_len_slice Tryz.underlying22 rfl) rfl ?_;refine L.val (x_conv (k':=.u64) (by rw [Tryz.underlying3];rfl) Tryz.underlying59 rfl (wru64 om_)) rfl ?_;refine L.ret (x_call kifd_en25 rfl) rfl (number_ok l.length om_ _) ?_;rintro _ w16 ⟨rfl,hw⟩;have hB:=hB.carry hw;have hr:=hr.carry hw;have hD:=hD.carry hw;refine L.ret (x_call kifd_en24 rfl) rfl (wstr_v b _ [] _ _ hD (by have:=numB_len (n:=l.length) om_;simp only [List.length_nil];omega)) ?_;rintro _ w17 ⟨v2,hD2,hG2,ho2⟩;have hG2:Gr (fun k=>b≤k) _ _:=hG2.mono fun k _ e=>by
     rcases e with e | e
     · omega
     · have:=hD.own e;omega
   have hB:=hB.step hG2 (fun i hi e=>by omega);have hr:=hr.carryR hG2 (fun k e=>hU k om_);have hD:BuilderV w17 b v2 (numB l.length):=hD2;refine L.nil (thn_n (W.seq (W.seq (W.region (L.val (x_mv (v:=.slice _ _ _) rfl) rfl ?_)))));refine L.val (x_len_slice Tryz.underlying22 rfl) rfl ?_;refine L.val (x_mv (v:=.int _ _) rfl) rfl ?_;refine L.nil (thn_n (W.block (W.loop (fun m' E w'=>∃ (i:Nat) (v2:Value),m'=l.length - i∧E 5=.pointer (some ⟨b,0,none⟩)∧E 18=.slice p l.length cap∧E 19=.int .i64 (l.length:Nat)∧E 20=.int .i64 (i:Nat)∧(i≤l.length)∧(Bel w w')∧(BuilderV w' b v2 (numB l.length++((l.take i).map itB).flatten))∧(RecRow ItC 7 A w' p row l)) (l.length) ?_ ?_)))
   ·exact ⟨0,_,by omega,by first | rfl | exact vi om_ | exact vs (by first | assumption | (rw [hst];done) | (rw [hst];simp only [List.append_assoc])),by first | rfl | exact vi om_ | exact vs (by first | assumption | (rw [hst];done) | (rw [hst];simp only [List.append_assoc])),by first | rfl | exact vi om_ | exact vs (by first | assumption | (rw [hst];done) | (rw [hst];simp only [List.append_assoc])),by first | rfl | exact vi om_ | exact vs (by first | assumption | (rw [hst];done) | (rw [hst];simp only [List.append_assoc])),ao_,ao_,(by rw [List.take_zero,List.map_nil,List.flatten_nil,List.append_nil];exact hD),ao_⟩
   ·rintro _ E wL21 ⟨i,v2,em,e5,e18,e19,e20,hi,hB,hD,hr⟩;rw [upd_self e5,upd_self e18,upd_self e19,upd_self e20];refine W.seq (W.region (L.val (x_lss rfl rfl) rfl ?_));refine L.nil (thn_n (W.seq (W.cond (b:=_) rfl (fun g21=>?_) (fun g21=>?_))))
    ·have h21:=of_decide_eq_true g21;have hlt:i<l.length:=by omega
     obtain ⟨pb,po,rfl,-⟩:=hr.elem hlt;have hst:=its_take hlt;have hle:=its_take_le hit h60 i;have hx:=hit _ (mem_getD hlt);obtain ⟨q1,q2,q3,-,-⟩:=item_props hx;have hbl:=itB_len hx;have hnb:=numB_len (n:=l.length) om_;have hkb:=numB_len (n:=(l.getD i default).kind.toNat) om_;have htb:(textB (l.getD i default).name).length≤20009:=by unfold textB;rw [List.length_append];have:=numB_len (n:=(l.getD i default).name.length) om_;omega
     have hown2:=fun k (hk:some k=v2.ownBlock)=>hD.own hk
     have hbl2:=hD.lt;have hsB:=hB.size;obtain ⟨rs,e1,hs,hn⟩:=hr.each i hlt;have hrs:=hs.len;have hek:(((l.getD i default).kind.toNat:Nat):Int)=(l.getD i default).kind:=by omega
     have hnum:∀ w,Ret Tryz.prog 25 #[.int .u64 (l.getD i default).kind] w fun v w'=>v=S (numB (l.getD i default).kind.toNat)∧Bel w w':=fun w=>by
       have:=number_ok (l.getD i default).kind.toNat om_ w
       rwa [hek] at this
     have hno7:¬ BR b v2 wL21.heap.size:=fun e=>by
       rcases e with e | e
       · omega
       · have:=hown2 _ e;omega
     have hR:∀ k,BR b v2 k→b≤k:=fun k e=>by
       rcases e with e | e
       · omega
       · have:=hown2 k e;omega
     refine W.skip (thn_n (W.seq (W.block (W.seq (W.region (L.val (x_ia (j:=i) Tryz.underlying22 kifd_sz43 rfl rfl om_ om_) rfl ?_))))));refine L.val (x_ldn (vs:=row i) kifd_ag43 rfl (hr.len i hlt) (hr.elemAt hlt)) rfl ?_;refine L.alloc (cs:=[Value.int .i64 0,S [],Value.int .i64 0,S [],S [],Value.slice none 0 0,Value.slice none 0 0]) kifd_zr43 rfl rfl (fun w7 bx7 hw hz7=>?_);have hB:=hB.carry hw;have hD:=hD.carry hw;have hr:=hr.carry hw;have hs:=hs.carry hw;refine L.setRow kifd_ag43 rfl rfl bx7 rfl (hr.len i hlt) (Car.one (hr.each i hlt)) (fun wl24 bx7 hw hzl24=>?_);have hsz:=hB.size;have hB:=hB.set hw om_;have hD:=hD.carryR hw (fun k e e2=>by have e2:k=_:=e2;rw [e2] at e;exact hno7 e);have hr:=hr.carryR hw (fun k e=>hU k (by have e:k=_:=e;omega));have hs:=hs.carryR hw (fun k e=>hU k (by have e:k=_:=e;omega));rw [e1] at bx7;refine L.nil (thn_n (W.seq (W.drawD (BR b v2) (fun _=>False) 8 kifd_mixed (fun wD24 hw=>?_))));have hB:=hB.carry hw;have hD:=hD.carry hw;have hr:=hr.carry hw;have hs:=hs.carry hw;have bx7:=bx7.carry hw;have hB0:=Gr.refl (fun _=>False) wD24;have hR0:=Gr.refl (BR b v2) wD24;refine LAD.take0 (i:=0) rfl kr_ kr_ kr_ kr_ (fun w hw=>x_fa kifd_fo43_0 rfl) rfl ?_;refine LAD.take0 (i:=1) rfl kr_ kr_ kr_ kr_ (fun w hw=>x_ld (v:=.int _ _) kifd_oc3 rfl (hw.keepR (hno7) (bx7.cell0 rfl))) rfl ?_;refine LAD.take0 (i:=2) rfl kr_ kr_ kr_ kr_ (fun w hw=>x_conv (k':=.u64) (by rw [Tryz.underlying3];rfl) Tryz.underlying59 rfl (wru64 om_)) rfl ?_;refine LAD.take0 (i:=4) rfl kr_ kr_ kr_ kr_ (fun w hw=>x_fa kifd_fo43_1 rfl) rfl ?_;refine LAD.take0 (i:=5) rfl kr_ kr_ kr_ kr_ (fun w hw=>x_ld (v:=S _) kifd_oc9 rfl (hw.keepR (hno7) (bx7.cell0 rfl))) rfl ?_;refine LAD.step (rs:=[3]) hR0 (fun _=>hB0) kr_ (by simp) ⟨⟨_,rfl,?_⟩,trivial⟩;refine L.ret (x_call kifd_en25 rfl) rfl (hnum _) ?_;rintro _ w27 ⟨rfl,hw⟩;have hB0:=hB0.carry hw;have hR0:=hR0.carry hw;have hD:=hD.carry hw;refine L.nil (thn_n (LAD.step (rs:=[6]) hR0 (fun _=>hB0) kr_ (by simp) ⟨⟨_,rfl,?_⟩,trivial⟩));refine L.ret (x_call kifd_en26 rfl) rfl (text_ok _ om_ _) ?_;rintro _ w30 ⟨rfl,hw⟩;have hB0:=hB0.carry hw;have hR0:=hR0.carry hw;have hD:=hD.carry hw;refine L.nil (thn_n ?_);refine LAD.take0 (i:=7) rfl kr_ kr_ kr_ kr_ (fun w hw=>x_cat rfl rfl (by first | omega | (simp only [List.length_append,List.length_cons,List.length_nil];omega))) rfl ?_;refine LAD.step (rs:=[8]) hR0 (fun _=>hB0) kr_ (by simp) ⟨⟨_,rfl,?_⟩,trivial⟩;refine L.ret (x_call kifd_en24 rfl) rfl (wstr_v b v2 _ (numB (l.getD i default).kind.toNat++textB (l.getD i default).name) _ hD (by simp only [List.length_append];omega)) ?_;rintro _ w32 ⟨v3,hD3,hG3,ho3⟩;have hR0:=hR0.trans hG3;refine L.nil (thn_n (LAD.done kr_ kr_ hR0 ?_));have hB:=hB.step hR0 (fun k hk e=>by have:=hR k e;omega);have hr:=hr.carryR hR0 (fun k e=>hU k (by have:=hR k e;omega));have hs:=hs.carryR hR0 (fun k e=>hU k (by have:=hR k e;omega));have bx7:=bx7.carryR hR0 hno7;refine thn_n (W.seq (W.region (L.val (x_fa kifd_fo43_0 rfl) rfl ?_)));refine L.val (x_ld (v:=.int _ _) kifd_oc3 rfl (bx7.cell0 rfl)) rfl ?_;refine L.val (x_neq rfl rfl) rfl ?_;refine L.nil (thn_n (W.cond (b:=_) rfl (fun g35=>?_) (fun g35=>?_)))
     ·have h35:=dne_t g35;have hk2:(l.getD i default).kind≠2:=h35;obtain ⟨f1,f2,-⟩:=item_fits hx hk2;have hbsh:=bytes_len _ f1 f2;refine W.region (L.val (x_fa kifd_fo43_2 rfl) rfl ?_);refine L.val (x_ldn (vs:=rs) kifd_ag41 rfl hrs (bx7.rowD 2 hrs)) rfl ?_;refine L.ret (x_call kifd_en27 rfl) rfl (laid_ok _ (l.getD i default).sh (Nat.lt_succ_self _) f1 f2 A rs _ b v3 _ hs (fun k hk=>hU k om_) hD3 (by simp only [List.length_append];omega)) ?_;rintro _ w38 ⟨v4,hD4,hG4,ho4⟩;have hR4:∀ k,BR b v3 k→b≤k:=fun k e=>by
        rcases e with e | e
        · omega
        · have:=hD3.own e;omega
      have hB:=hB.step hG4 (fun k hk e=>by have:=hR4 k e;omega);have hr:=hr.carryR hG4 (fun k e=>hU k (by have:=hR4 k e;omega));have hD9:=hD4;rw [show numB l.length++((l.take i).map itB).flatten++(numB (l.getD i default).kind.toNat++textB (l.getD i default).name)++(l.getD i default).sh.bytes=numB l.length++((l.take (i+1)).map itB).flatten by rw [hst];unfold itB;rw [if_neg hk2];simp only [List.append_assoc]] at hD9;refine L.nil (blk_n (thn_n (W.region (L.val (x_add rfl rfl (wr64 om_)) rfl ?_))));refine L.val (x_mv (v:=.int _ _) rfl) rfl ?_;refine L.nil (thn_n ⟨rfl,?_⟩);refine ⟨_,?_,i+1,_,rfl,by first | rfl | exact vi om_ | exact vs (by first | assumption | (rw [hst];done) | (rw [hst];simp only [List.append_assoc])),by first | rfl | exact vi om_ | exact vs (by first | assumption | (rw [hst];done) | (rw [hst];simp only [List.append_assoc])),by first | rfl | exact vi om_ | exact vs (by first | assumption | (rw [hst];done) | (rw [hst];simp only [List.append_assoc])),by first | rfl | exact vi om_ | exact vs (by first | assumption | (rw [hst];done) | (rw [hst];simp only [List.append_assoc])),ao_,ao_,(by exact hD9),ao_⟩;omega
     ·have h35:=dne_f g35;have hk2:(l.getD i default).kind=2:=h35;have hD9:=hD3;rw [show numB l.length++((l.take i).map itB).flatten++(numB (l.getD i default).kind.toNat++textB (l.getD i default).name)=numB l.length++((l.take (i+1)).map itB).flatten by rw [hst];unfold itB;rw [if_pos hk2,List.append_nil,List.append_assoc]] at hD9;refine W.skip (blk_n (thn_n (W.region (L.val (x_add rfl rfl (wr64 om_)) rfl ?_))));refine L.val (x_mv (v:=.int _ _) rfl) rfl ?_;refine L.nil (thn_n ⟨rfl,?_⟩);refine ⟨_,?_,i+1,_,rfl,by first | rfl | exact vi om_ | exact vs (by first | assumption | (rw [hst];done) | (rw [hst];simp only [List.append_assoc])),by first | rfl | exact vi om_ | exact vs (by first | assumption | (rw [hst];done) | (rw [hst];simp only [List.append_assoc])),by first | rfl | exact vi om_ | exact vs (by first | assumption | (rw [hst];done) | (rw [hst];simp only [List.append_assoc])),by first | rfl | exact vi om_ | exact vs (by first | assumption | (rw [hst];done) | (rw [hst];simp only [List.append_assoc])),ao_,ao_,(by exact hD9),ao_⟩;omega
    ·have h21:=dlt_f g21;have hie:i=l.length:=by omega
     subst hie;rw [List.take_length] at hD;refine W.exit (thn_x (thn_x (blk_hit ?_)));refine thn_n (W.seq (W.region (L.ret (x_call kifd_en28 rfl) rfl (bstr_ok _ _ _ hD.is) ?_)));rintro _ w40 ⟨rfl,hG40⟩;refine L.val (x_as (v:=S _) rfl) rfl ?_;refine L.val (x_as (v:=.int _ _) rfl) rfl ?_;refine L.nil (thn_n (W.ret (fin_mk (.inr rfl) ?_)));unfold encI;rw [if_pos hck];exact ⟨rfl,hB.step hG40 (fun i hi e=>by omega)⟩
end Go.Gx
namespace Go.Gx
open Go.Proofs
def AvP (base:Nat) (w:World) (v:Value) (k:Nat):Prop:=k<base∨some k=v.ownBlock∨w.heap.size≤k
theorem avp_step {base:Nat} {w w2:World} {v v2:Value} (hs:w.heap.size≤w2.heap.size) (h2:v2.ownBlock=v.ownBlock∨∀ k,some k=v2.ownBlock→w.heap.size≤k) {j:Nat} (h:AvP base w2 v2 j):AvP base w v j:=by
  rcases h with h | h | h
  · exact .inl h
  · rcases h2 with e | e
    · exact .inr (.inl (h.trans e))
    · exact .inr (.inr (e j h))
  · exact .inr (.inr om_)
theorem ShsOwn.snocA {A A' R:Nat→Prop} {w w':World} {base:Nat} {e:TypeId} {v':Value} {l:List Sh} {rows:List (List Value)} {cs:List Value} {t:Sh} (h1:rows.length=l.length) (h3:∀ i,i<l.length→(rows.getD i []).length=5) (h4:∀ i,i<l.length→ShC A w (rows.getD i []) (l.getD i default))
    (ht:ShC A' w' cs t) (ho:Own w' base e 5 v' (l.length+1) (rows.flatten++cs)) (g:Gr R w w') (hR:∀ j,R j→A j) (hA:∀ j,A' j→A j):ShsOwn A' w' base e v' (l++[t]):=by
  refine ⟨rows++[cs],by simp [h1],?_,fun i hi=>?_,fun i hi=>?_⟩
  · have e1:(rows++[cs]).flatten=rows.flatten++cs:=by simp
    rw [e1,List.length_append];exact ho
  · have:=getD_snoc (l:=rows) (x:=cs) (d:=[]) (i:=i) (by simp at hi ⊢;omega);rw [this];split
    · rename_i hlt;exact h3 i om_
    · exact ht.len
  · have e1:=getD_snoc (l:=rows) (x:=cs) (d:=[]) (i:=i) (by simp at hi ⊢;omega);have e2:=getD_snoc (l:=l) (x:=t) (d:=default) hi;rw [e1,e2,h1];split
    · rename_i hlt;exact ((h4 i hlt).carryR g hR).mono (fun b _ h=>hA b h)
    · exact ht
def ShO (A:Nat→Prop) (w:World) (cs:List Value) (o:Option (Sh × Nat)):Prop:=∀ x,o=some x→ShC A w cs x.1
theorem ShO.carryR {A R:Nat→Prop} {w w':World} {cs:List Value} {o:Option (Sh × Nat)} (h:ShO A w cs o) (g:Gr R w w') (hR:∀ k,R k→A k):ShO A w' cs o:=fun x hx=>(h x hx).carryR g hR
theorem ShO.carry {A:Nat→Prop} {w w':World} {cs:List Value} {o:Option (Sh × Nat)} (h:ShO A w cs o) (g:Bel w w'):ShO A w' cs o:=h.carryR g (fun _ f=>f.elim)
theorem ShO.mono {A A':Nat→Prop} {w:World} {cs:List Value} {o:Option (Sh × Nat)} (h:ShO A w cs o) (hA:∀ b,b<w.heap.size→A' b→A b):ShO A' w cs o:=fun x hx=>(h x hx).mono hA
end Go.Gx
namespace Go.Gx
open Go.Proofs
section
variable {P:Program} {n:Nat} {Q:Post} {D:List Deferred} {E:Env} {w:World}
theorem L.setPart {ops:Array Oper} {r:List Oper} {x y:Operand} {s t:TypeId} {p:String} {af:Array Edge} {b o k:Nat} {T:TypeId} {cs new:List Value} (hs:aggT P s k=true)
    (hx:ev E x=.pointer (some ⟨b,o,none⟩)) (hy:ev E y=.agg new.toArray) (hb:Box w b T cs) (hl:o+k≤cs.length) (hn:new.length=k) (h1:∀ v∈new,v.oneCell'=true)
    (kk:∀ w1,Box w1 b T (cs.take o++new++cs.drop (o+k))→Gr (· = b) w w1→w1.heap.size=w.heap.size→L P n ops Q r D E w1):L P n ops Q (⟨none,.store s x y,t,p,af,none⟩ :: r) D E w:=by
  unfold aggT at hs;simp only [Bool.and_eq_true,beq_iff_eq] at hs;have hst:=run_storeCells_at P b o T new 0 cs.toArray w hb (by simpa [hn] using hl) h1;have hrun:(storeVar s ⟨b,o,none⟩ (.agg new.toArray)).run P w=.ok () (w.setRow b (cs.take o++new++cs.drop (o+k)).toArray):=by
    cases hq:P.info? s with
    | none=>rw [hq] at hs;simp at hs
    | some i=>
      have hi:i.size=k:=by rw [hq] at hs;simpa using hs.2
      simp only [Nat.add_zero,hn] at hst;simp [storeVar,sizeOf,typeInfo,hq,Value.cells,hi,hn,hst]
  refine L.skip (w':=w.setRow b (cs.take o++new++cs.drop (o+k)).toArray) ?_ (kk _ (setRow_heap w b cs.toArray _ T (0,0) hb) ⟨rfl,rfl,rfl,by simp [World.setRow],fun k _ hk=>setRow_other w b k _ hk⟩ (by simp [World.setRow]));unfold Xs;simp only [execOp,hx,hy,Instr.storeAt,Instr.sureAddr,Sem.run_bind,Sem.run_pure,Result.andThen_ok,hrun]
end
end Go.Gx
namespace Go.Gx
open Go.Proofs
theorem ItC.carryR {A R:Nat→Prop} {w w':World} {cs:List Value} {x:It} (h:ItC A w cs x) (g:Gr R w w') (hR:∀ j,R j→A j):ItC A w' cs x:=Car.carryR h g hR
theorem ItC.carry {A:Nat→Prop} {w w':World} {cs:List Value} {x:It} (h:ItC A w cs x) (g:Bel w w'):ItC A w' cs x:=Car.carry h g
theorem ItC.mono {A A':Nat→Prop} {w:World} {cs:List Value} {x:It} (h:ItC A w cs x) (hA:∀ b,b<w.heap.size→A' b→A b):ItC A' w cs x:=Car.mono h hA
end Go.Gx
namespace Go.Gx
open Go.Proofs
theorem kifm_en62:Go.Proofs.Enters Tryz.prog 62:=Go.Proofs.enters_of Tryz.func62 kr_ rfl
theorem kifm_en63:Go.Proofs.Enters Tryz.prog 63:=Go.Proofs.enters_of Tryz.func63 kr_ rfl
theorem kifm_fo67_0:fieldOff Tryz.prog 67 0=some 0:=by kernel_rfl
theorem kifm_fo67_1:fieldOff Tryz.prog 67 1=some 1:=by kernel_rfl
theorem kifm_fo67_3:fieldOff Tryz.prog 67 3=some 3:=by kernel_rfl
theorem kifm_mixed:Tryz.prog.follows .mixedOrders=true:=by kernel_rfl
theorem kifm_oc3:oneCellT Tryz.prog 3=true:=by kernel_rfl
theorem kifm_oc4:oneCellT Tryz.prog 4=true:=by kernel_rfl
theorem kifm_oc9:oneCellT Tryz.prog 9=true:=by kernel_rfl
theorem kifm_sz3:(Tryz.prog.info? 3).map (·.size)=some 1:=by kernel_rfl
theorem kifm_sz4:(Tryz.prog.info? 4).map (·.size)=some 1:=by kernel_rfl
def tkV (s:Str) (t:Tk):List Value:=[S s,.int .i64 (t.pos:Nat),.int .i64 (t.parts:Nat),.bool t.bad]
def TkAt (w:World) (b:Nat) (s:Str) (t:Tk):Prop:=Box w b 67 (tkV s t)
theorem TkAt.carryR {R:Nat→Prop} {w w':World} {b:Nat} {s:Str} {t:Tk} (h:TkAt w b s t) (g:Gr R w w') (hn:¬ R b):TkAt w' b s t:=Box.carryR h g hn
theorem TkAt.carry {w w':World} {b:Nat} {s:Str} {t:Tk} (h:TkAt w b s t) (g:Bel w w'):TkAt w' b s t:=Box.carry h g
theorem tkNum_pos {s:Str} {m:Nat} {t:Tk} (h:t.pos≤s.length):(tkNum s m t).2.pos≤s.length∧(tkNum s m t).2.parts=t.parts∧(tkNum s m t).1≤m∧(t.bad=true→(tkNum s m t).2.bad=true):=by
  unfold tkNum;split
  · exact ⟨h,rfl,Nat.zero_le _,fun _=>rfl⟩
  · rename_i h1
    simp only [not_or,Decidable.not_not,Nat.not_lt] at h1;exact ⟨(takeNum_le h1.2.1).2.1,rfl,h1.2.2,fun e=>absurd e h1.1⟩
theorem tkText_pos {s:Str} {t:Tk} (h:t.pos≤s.length):(tkText s t).2.pos≤s.length∧(tkText s t).2.parts=t.parts∧(tkText s t).1.length≤s.length∧(t.bad=true→(tkText s t).2.bad=true):=by
  unfold tkText;split
  · exact ⟨h,rfl,Nat.zero_le _,fun _=>rfl⟩
  · rename_i h1
    simp only [not_or,Decidable.not_not] at h1;exact ⟨(takeText_le h1.2).2.1,rfl,takeText_len _ _,fun e=>absurd e h1.1⟩
theorem number_t (s:Str) (hs:s.length≤1000000000) (b m:Nat) (hm:m≤1000) (t:Tk) (w:World) (h:TkAt w b s t) (hp:t.pos≤s.length):
    Ret Tryz.prog 34 #[.pointer (some ⟨b,0,none⟩),.int .i64 (m:Nat)] w fun v w'=>v=.int .i64 ((tkNum s m t).1:Nat)∧TkAt w' b s (tkNum s m t).2∧Gr (· = b) w w':=by
  have hlt:=takeNum_lt s t.pos;have hbx:Box w b 67 [S s,.int .i64 (t.pos:Nat),.int .i64 (t.parts:Nat),.bool t.bad]:=h;refine ret_of_W Tryz.func34 rfl (Nat.le_of_ble_eq_true rfl) (res1 rfl) ?_;have hG:=Gr.refl (· = b) w;refine W.seq (W.region (L.val (x_as (v:=.int _ _) rfl) rfl ?_));refine L.nil (thn_n (W.seq (W.drawB kifm_mixed kr_ ?_)));refine LQ.val (fun w hw=>x_mv (v:=.pointer _) rfl) rfl ?_;refine LQ.val (fun w hw=>x_nil rfl) rfl ?_;refine LQ.val (fun w hw=>x_fa kifm_fo67_0 rfl) rfl ?_;refine LQ.val (fun w hw=>x_ld (v:=S _) kifm_oc9 rfl (hw.keep (hbx.cell0 rfl))) rfl ?_;refine LQ.val (fun w hw=>x_mv (v:=.pointer _) rfl) rfl ?_;refine LQ.val (fun w hw=>x_nil rfl) rfl ?_;refine LQ.val (fun w hw=>x_fa kifm_fo67_1 rfl) rfl ?_;refine LQ.val (fun w hw=>x_ld (v:=.int _ _) kifm_oc3 rfl (hw.keep (hbx.cell0 rfl))) rfl ?_;refine LQ.ret (fun w=>x_call kifm_en62 rfl) (fun w hw=>Ret.mono (takeNum_ok s t.pos hp hs w) (fun _ _ h=>⟨h.1,Gr.trans hw h.2⟩)) rfl ?_;refine LQ.val (fun w hw=>x_mv (v:=_) rfl) rfl ?_;(iterate 3 refine LQ.val (fun w hw=>x_ext (v:=.int _ _) rfl rfl) rfl ?_);(iterate 3 refine LQ.val (fun w hw=>x_as (v:=.int _ _) rfl) rfl ?_);refine LQ.nil ?_;intro w9 hw;have hG:=hG.carry hw;have hbx:=hbx.carry hw;refine thn_n (W.seq (W.seq (W.region (L.val (x_mv (v:=.pointer _) rfl) rfl ?_))));refine L.val (x_nil rfl) rfl ?_;refine L.val (x_fa kifm_fo67_3 rfl) rfl ?_;refine L.val (x_ld (v:=.bool _) kifm_oc4 rfl (hbx.cell0 rfl)) rfl ?_;refine L.val (x_mv (v:=.bool _) rfl) rfl ?_;refine' L.group0 2 26 27 27 25 false rfl ?_ ?_ ?_;rotate_left 1
  ·intro g25;have h25:=g25;refine L.gyes' (dj:=25) (b:=_) rfl rfl g25 ?_;refine L.val (x_mv (v:=.int _ _) rfl) rfl ?_;refine L.gyes' (dj:=25) (b:=_) rfl rfl g25 ?_;refine L.val (x_neq rfl rfl) rfl ?_;refine L.nil (thn_n ⟨rfl,rfl,?_,rfl⟩);repeat (first | exact jeq.refl _ _ _ | refine jeq.upd rfl ?_ | refine jeq.jk rfl rfl ?_)
  ·intro g25;refine L.gno (dj:=25) (b:=_) rfl rfl g25 rfl ?_;refine L.gno (dj:=25) (b:=_) rfl rfl g25 rfl ?_;refine L.nil (thn_n ⟨rfl,rfl,?_⟩);repeat (first | exact jeq.refl _ _ _ | refine jeq.upd rfl ?_ | refine jeq.jk rfl rfl ?_)
  intro J25 j25;refine L.val (x_or rfl j25) rfl ?_;refine L.val (x_mv (v:=.bool _) rfl) rfl ?_;refine' L.group0 4 30 33 33 29 false rfl ?_ ?_ ?_;rotate_left 1
  ·intro g29;have h29:=g29;refine L.gyes' (dj:=29) (b:=_) rfl rfl g29 ?_;refine L.val (x_mv (v:=.int _ _) rfl) rfl ?_;refine L.gyes' (dj:=29) (b:=_) rfl rfl g29 ?_;refine L.val (x_mv (v:=.int _ _) rfl) rfl ?_;refine L.gyes' (dj:=29) (b:=_) rfl rfl g29 ?_;refine L.val (x_conv (k':=.u64) (by rw [Tryz.underlying3];rfl) Tryz.underlying59 rfl (wru64 om_)) rfl ?_;refine L.gyes' (dj:=29) (b:=_) rfl rfl g29 ?_;refine L.val (x_gtr rfl rfl) rfl ?_;refine L.nil (thn_n ⟨rfl,rfl,?_,rfl⟩);repeat (first | exact jeq.refl _ _ _ | refine jeq.upd rfl ?_ | refine jeq.jk rfl rfl ?_)
  ·intro g29;(iterate 4 refine L.gno (dj:=29) (b:=_) rfl rfl g29 rfl ?_);refine L.nil (thn_n ⟨rfl,rfl,?_⟩);repeat (first | exact jeq.refl _ _ _ | refine jeq.upd rfl ?_ | refine jeq.jk rfl rfl ?_)
  intro J29 j29;refine L.val (x_or rfl j29) rfl ?_;refine L.nil (thn_n (W.cond (b:=_) rfl (fun g34=>?_) (fun g34=>?_)))
  ·have h34:=g34;have hc:t.bad=true∨(takeNum s t.pos).2.2≠0∨m<(takeNum s t.pos).1:=by
     simp only [Bool.or_eq_true,Bool.not_eq_true',decide_eq_true_eq,decide_eq_false_iff_not] at g34;rcases g34 with (g | g) | g
     · exact .inl g
     · exact .inr (.inl g)
     · exact .inr (.inr om_)
   have hT:tkNum s m t=(0,⟨t.pos,t.parts,true⟩):=if_pos hc;refine W.seq (W.region (L.val (x_mv (v:=.pointer _) rfl) rfl ?_));refine L.val (x_nil rfl) rfl ?_;refine L.val (x_fa kifm_fo67_3 rfl) rfl ?_;refine L.set (v:=.bool _) kifm_sz4 rfl rfl rfl hbx rfl (fun wl35 hbx hw hzl35=>?_);have hG:=hG.into hw rfl;refine L.nil (thn_n (W.seq (W.region (L.val (x_as (v:=.int _ _) rfl) rfl ?_))));refine L.nil (thn_n (W.ret (thn_r (fin_mk (.inr rfl) ?_))));rw [hT];exact ⟨rfl,hbx,hG⟩
  ·have h34:=g34;have hc:¬ (t.bad=true∨(takeNum s t.pos).2.2≠0∨m<(takeNum s t.pos).1):=by
     simp only [Bool.or_eq_false_iff,Bool.not_eq_false',decide_eq_true_eq,decide_eq_false_iff_not] at g34;rintro (g | g | g)
     · rw [g34.1.1] at g;cases g
     · exact g g34.1.2
     · omega
   have hT:tkNum s m t=((takeNum s t.pos).1,⟨(takeNum s t.pos).2.1,t.parts,t.bad⟩):=if_neg hc;have hle:(takeNum s t.pos).1≤m:=by omega
   refine W.skip (thn_n (W.seq (W.region (L.val (x_mv (v:=.pointer _) rfl) rfl ?_))));refine L.val (x_mv (v:=.int _ _) rfl) rfl ?_;refine L.val (x_nil rfl) rfl ?_;refine L.val (x_fa kifm_fo67_1 rfl) rfl ?_;refine L.set (v:=.int _ _) kifm_sz3 rfl rfl rfl hbx rfl (fun wl41 hbx hw hzl41=>?_);have hG:=hG.into hw rfl;refine L.nil (thn_n (W.seq (W.region (L.val (x_mv (v:=.int _ _) rfl) rfl ?_))));refine L.val (x_conv (k':=.i64) (by rw [Tryz.underlying59];rfl) Tryz.underlying3 rfl (wr64 om_)) rfl ?_;refine L.val (x_as (v:=.int _ _) rfl) rfl ?_;refine L.nil (thn_n (W.ret (fin_mk (.inr rfl) ?_)));rw [hT];exact ⟨rfl,hbx,hG⟩
theorem text_t (s:Str) (hs:s.length≤1000000000) (b:Nat) (t:Tk) (w:World) (h:TkAt w b s t) (hp:t.pos≤s.length):
    Ret Tryz.prog 35 #[.pointer (some ⟨b,0,none⟩)] w fun v w'=>v=S (tkText s t).1∧TkAt w' b s (tkText s t).2∧Gr (· = b) w w':=by
  have hbx:Box w b 67 [S s,.int .i64 (t.pos:Nat),.int .i64 (t.parts:Nat),.bool t.bad]:=h;refine ret_of_W Tryz.func35 rfl (Nat.le_of_ble_eq_true rfl) (res1 rfl) ?_;have hG:=Gr.refl (· = b) w;refine W.seq (W.region (L.val (x_as (v:=S _) rfl) rfl ?_));refine L.nil (thn_n (W.seq (W.drawB kifm_mixed kr_ ?_)));refine LQ.val (fun w hw=>x_mv (v:=.pointer _) rfl) rfl ?_;refine LQ.val (fun w hw=>x_nil rfl) rfl ?_;refine LQ.val (fun w hw=>x_fa kifm_fo67_0 rfl) rfl ?_;refine LQ.val (fun w hw=>x_ld (v:=S _) kifm_oc9 rfl (hw.keep (hbx.cell0 rfl))) rfl ?_;refine LQ.val (fun w hw=>x_mv (v:=.pointer _) rfl) rfl ?_;refine LQ.val (fun w hw=>x_nil rfl) rfl ?_;refine LQ.val (fun w hw=>x_fa kifm_fo67_1 rfl) rfl ?_;refine LQ.val (fun w hw=>x_ld (v:=.int _ _) kifm_oc3 rfl (hw.keep (hbx.cell0 rfl))) rfl ?_;refine LQ.ret (fun w=>x_call kifm_en63 rfl) (fun w hw=>Ret.mono (takeText_ok s t.pos hp hs w) (fun _ _ h=>⟨h.1,Gr.trans hw h.2⟩)) rfl ?_;refine LQ.val (fun w hw=>x_mv (v:=_) rfl) rfl ?_;refine LQ.val (fun w hw=>x_ext (v:=S _) rfl rfl) rfl ?_;refine LQ.val (fun w hw=>x_ext (v:=.int _ _) rfl rfl) rfl ?_;refine LQ.val (fun w hw=>x_ext (v:=.int _ _) rfl rfl) rfl ?_;refine LQ.val (fun w hw=>x_as (v:=S _) rfl) rfl ?_;refine LQ.val (fun w hw=>x_as (v:=.int _ _) rfl) rfl ?_;refine LQ.val (fun w hw=>x_as (v:=.int _ _) rfl) rfl ?_;refine LQ.nil ?_;intro w7 hw;have hG:=hG.carry hw;have hbx:=hbx.carry hw;refine thn_n (W.seq (W.seq (W.region (L.val (x_mv (v:=.pointer _) rfl) rfl ?_))));refine L.val (x_nil rfl) rfl ?_;refine L.val (x_fa kifm_fo67_3 rfl) rfl ?_;refine L.val (x_ld (v:=.bool _) kifm_oc4 rfl (hbx.cell0 rfl)) rfl ?_;refine L.val (x_mv (v:=.bool _) rfl) rfl ?_;refine' L.group0 2 24 25 25 23 false rfl ?_ ?_ ?_;rotate_left 1
  ·intro g23;have h23:=g23;refine L.gyes' (dj:=23) (b:=_) rfl rfl g23 ?_;refine L.val (x_mv (v:=.int _ _) rfl) rfl ?_;refine L.gyes' (dj:=23) (b:=_) rfl rfl g23 ?_;refine L.val (x_neq rfl rfl) rfl ?_;refine L.nil (thn_n ⟨rfl,rfl,?_,rfl⟩);repeat (first | exact jeq.refl _ _ _ | refine jeq.upd rfl ?_ | refine jeq.jk rfl rfl ?_)
  ·intro g23;refine L.gno (dj:=23) (b:=_) rfl rfl g23 rfl ?_;refine L.gno (dj:=23) (b:=_) rfl rfl g23 rfl ?_;refine L.nil (thn_n ⟨rfl,rfl,?_⟩);repeat (first | exact jeq.refl _ _ _ | refine jeq.upd rfl ?_ | refine jeq.jk rfl rfl ?_)
  intro J23 j23;refine L.val (x_or rfl j23) rfl ?_;refine L.nil (thn_n (W.cond (b:=_) rfl (fun g26=>?_) (fun g26=>?_)))
  ·have h26:=g26;have hc:t.bad=true∨(takeText s t.pos).2.2≠0:=by
     simp only [Bool.or_eq_true,Bool.not_eq_true',decide_eq_false_iff_not] at g26;exact g26
   have hT:tkText s t=([],⟨t.pos,t.parts,true⟩):=if_pos hc;refine W.seq (W.region (L.val (x_mv (v:=.pointer _) rfl) rfl ?_));refine L.val (x_nil rfl) rfl ?_;refine L.val (x_fa kifm_fo67_3 rfl) rfl ?_;refine L.set (v:=.bool _) kifm_sz4 rfl rfl rfl hbx rfl (fun wl29 hbx hw hzl29=>?_);have hG:=hG.into hw rfl;refine L.nil (thn_n (W.seq (W.region (L.val (x_as (v:=S _) rfl) rfl ?_))));refine L.nil (thn_n (W.ret (thn_r (fin_mk (.inr rfl) ?_))));rw [hT];exact ⟨rfl,hbx,hG⟩
  ·have h26:=g26;have hc:¬ (t.bad=true∨(takeText s t.pos).2.2≠0):=by
     simp only [Bool.or_eq_false_iff,Bool.not_eq_false',decide_eq_true_eq] at g26;rintro (g | g)
     · rw [g26.1] at g;cases g
     · exact g g26.2
   have hT:tkText s t=((takeText s t.pos).1,⟨(takeText s t.pos).2.1,t.parts,t.bad⟩):=if_neg hc;refine W.skip (thn_n (W.seq (W.region (L.val (x_mv (v:=.pointer _) rfl) rfl ?_))));refine L.val (x_mv (v:=.int _ _) rfl) rfl ?_;refine L.val (x_nil rfl) rfl ?_;refine L.val (x_fa kifm_fo67_1 rfl) rfl ?_;refine L.set (v:=.int _ _) kifm_sz3 rfl rfl rfl hbx rfl (fun wl35 hbx hw hzl35=>?_);have hG:=hG.into hw rfl;refine L.nil (thn_n (W.seq (W.region (L.val (x_mv (v:=S _) rfl) rfl ?_))));refine L.val (x_as (v:=S _) rfl) rfl ?_;refine L.nil (thn_n (W.ret (fin_mk (.inr rfl) ?_)));rw [hT];exact ⟨rfl,hbx,hG⟩
end Go.Gx
