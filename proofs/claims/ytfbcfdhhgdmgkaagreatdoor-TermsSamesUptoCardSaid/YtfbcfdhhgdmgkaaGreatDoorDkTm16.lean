/- What may stand in an expression: names and types; the document's. Conditions: none. -/
import Derived.Lib.ValidLaws
import Derived.Test.YtfbcfdhhgdmgkaaGreatDoorDkTm6
import Derived.Test.YtfbcfdhhgdmgkaaGreatDoorDkRep
namespace Go.Gx
open Go.Proofs Go.Sort
theorem ktm16_ag45:aggT Tryz.prog 45 5=true:=by kernel_rfl
theorem ktm16_en57:Go.Proofs.Enters Tryz.prog 57:=Go.Proofs.enters_of Tryz.func57 kr_ rfl
theorem ktm16_en82:Go.Proofs.Enters Tryz.prog 82:=Go.Proofs.enters_of Tryz.func82 kr_ rfl
theorem ktm16_en83:Go.Proofs.Enters Tryz.prog 83:=Go.Proofs.enters_of Tryz.func83 kr_ rfl
theorem ktm16_fo26_4:fieldOff Tryz.prog 26 4=some 4:=by kernel_rfl
theorem ktm16_fo26_5:fieldOff Tryz.prog 26 5=some 5:=by kernel_rfl
theorem ktm16_fo26_6:fieldOff Tryz.prog 26 6=some 6:=by kernel_rfl
theorem ktm16_fo26_7:fieldOff Tryz.prog 26 7=some 7:=by kernel_rfl
theorem ktm16_fo45_0:fieldOff Tryz.prog 45 0=some 0:=by kernel_rfl
theorem ktm16_fo45_4:fieldOff Tryz.prog 45 4=some 4:=by kernel_rfl
theorem ktm16_mixed:Tryz.prog.follows .mixedOrders=true:=by kernel_rfl
theorem ktm16_oc22:oneCellT Tryz.prog 22=true:=by kernel_rfl
theorem ktm16_oc23:oneCellT Tryz.prog 23=true:=by kernel_rfl
theorem ktm16_oc24:oneCellT Tryz.prog 24=true:=by kernel_rfl
theorem ktm16_oc3:oneCellT Tryz.prog 3=true:=by kernel_rfl
theorem ktm16_oc9:oneCellT Tryz.prog 9=true:=by kernel_rfl
theorem ktm16_sz45:(Tryz.prog.info? 45).map (·.size)=some 5:=by kernel_rfl
theorem ktm16_sz9:(Tryz.prog.info? 9).map (·.size)=some 1:=by kernel_rfl
def names8 (l:List Str) (ap:Bool):Bool:=l.all nameS && (!ap || nodup l)
theorem names08 (A:Nat→Prop) (v:Value) (l:List Str) (ap:Bool) (w:World) (hs:StrsAt A w v l):
    Ret Tryz.prog 55 #[v,.bool ap] w fun r w'=>r=.bool (names8 l ap)∧Bel w w':=by
  obtain ⟨p,cap,rfl,-,-,l3,hL,-⟩:=id hs;have hmem:∀ k,k<l.length→l.getD k []∈l:=fun k hk=>by rw [List.getD_eq_getElem?_getD,List.getElem?_eq_getElem hk];exact List.getElem_mem _
  refine ret_of_W Tryz.func55 rfl (Nat.le_of_ble_eq_true rfl) (res1 rfl) ?_;have hB:=Gr.refl (fun _=>False) w;refine W.seq (W.region (L.val (x_as (v:=.bool _) rfl) rfl ?_));refine L.nil (thn_n (W.seq (W.seq (W.region (L.val (x_as (v:=.int _ _) rfl) rfl ?_)))));refine L.nil (thn_n (W.block (W.loop (fun m' E w'=>∃ (k:Nat),m'=l.length - k∧E 0=.slice p l.length cap∧E 1=.bool ap∧E 5=.int .i64 (k:Nat)∧(Bel w w')∧(StrsAt A w' (.slice p l.length cap) l)∧(k≤l.length)∧((l.take k).all nameS=true)∧((!ap || nodup (l.take k))=true)) (l.length) ?_ ?_)))
  ·exact ⟨0,by omega,vi_,vi_,vi_,ao_,ao_,ao_,(by rfl),(by cases ap <;> rfl)⟩
  ·rintro _ E wL7 ⟨k,em,e0,e1,e5,hB,hs,hk,ha,hn⟩;rw [upd_self e0,upd_self e1,upd_self e5];refine W.seq (W.seq (W.region (L.val (x_mv (v:=.int _ _) rfl) rfl ?_)));refine L.val (x_mv (v:=.slice _ _ _) rfl) rfl ?_;refine L.val (x_len_slice Tryz.underlying22 rfl) rfl ?_;refine L.val (x_lss rfl rfl) rfl ?_;refine L.nil (thn_n (W.cond (b:=_) rfl (fun g10=>?_) (fun g10=>?_)))
   ·have h10:=of_decide_eq_true g10;have hlt:k<l.length:=by omega
    obtain ⟨b,o,rfl,hc⟩:=hs.elem hlt;refine W.skip (thn_n (W.seq (W.block (W.seq (W.seq (W.region (L.val (x_mv (v:=.slice _ _ _) rfl) rfl ?_)))))));refine L.val (x_mv (v:=.int _ _) rfl) rfl ?_;refine L.val (x_ia1  Tryz.underlying22 ktm16_sz9 rfl rfl rfl om_) rfl ?_;refine L.val (x_ld (v:=S _) ktm16_oc9 rfl hc) rfl ?_;refine L.ret (x_call ktm16_en57 rfl) rfl (name06 _ (hL _ (hmem k hlt)) _) ?_;rintro _ w17 ⟨rfl,hw⟩;have hB:=hB.carry hw;have hs:=hs.carry hw;refine L.val (x_not rfl) rfl ?_;refine L.nil (thn_n (W.cond (b:=_) rfl (fun g18=>?_) (fun g18=>?_)))
    ·have h18:=(not_t g18);refine W.seq (W.region (L.val (x_as (v:=.bool _) rfl) rfl ?_));refine L.nil (thn_n (W.ret (thn_r (blk_r (thn_r (thn_r (blk_r (thn_r (fin_mk (.inr rfl) ?_)))))))));exact ⟨vb (by
       have:l.all nameS=false:=by rw [List.all_eq_false];exact ⟨_,hmem k hlt,by rw [h18];simp⟩
       unfold names8;rw [this];rfl),hB⟩
    ·have h18:=(not_f g18);refine W.skip (thn_n (W.seq (W.region (L.val (x_as (v:=.int _ _) rfl) rfl ?_))));refine L.nil (thn_n (W.block (W.loop (fun m' E w'=>∃ (j:Nat),m'=k - j∧E 0=.slice (some ⟨b,o,none⟩) l.length cap∧E 1=.bool ap∧E 5=.int .i64 (k:Nat)∧E 6=.int .i64 (j:Nat)∧(Bel w w')∧(StrsAt A w' (.slice (some ⟨b,o,none⟩) l.length cap) l)∧(j≤k)∧((l.take j).contains (l.getD k [])=false)) (k) ?_ ?_)))
     ·exact ⟨0,by omega,vi_,vi_,vi_,vi_,ao_,ao_,ao_,(by simp)⟩
     ·rintro _ E wL19 ⟨j,em,e0,e1,e5,e6,hB,hs,hj,hcon⟩;rw [upd_self e0,upd_self e1,upd_self e5,upd_self e6];refine W.seq (W.seq (W.region (L.val (x_mv (v:=.int _ _) rfl) rfl ?_)));refine L.val (x_mv (v:=.int _ _) rfl) rfl ?_;refine L.val (x_lss rfl rfl) rfl ?_;refine L.val (x_mv (v:=.bool _) rfl) rfl ?_;refine' L.group0 1 23 23 23 22 true rfl ?_ ?_ ?_;rotate_left 1
      ·intro g22;have h22:=of_decide_eq_true g22;refine L.gyes' (dj:=22) (b:=_) rfl rfl g22 ?_;refine L.val (x_mv (v:=.bool _) rfl) rfl ?_;refine L.nil (thn_n ⟨rfl,rfl,?_,rfl⟩);repeat (first | exact jeq.refl _ _ _ | refine jeq.upd rfl ?_ | refine jeq.jk rfl rfl ?_)
      ·intro g22;refine L.gno (dj:=22) (b:=_) rfl rfl g22 rfl ?_;refine L.nil (thn_n ⟨rfl,rfl,?_⟩);repeat (first | exact jeq.refl _ _ _ | refine jeq.upd rfl ?_ | refine jeq.jk rfl rfl ?_)
      intro J22 j22;refine L.val (x_and rfl j22) rfl ?_;refine L.nil (thn_n (W.cond (b:=_) rfl (fun g24=>?_) (fun g24=>?_)))
      ·have h24:=g24;obtain ⟨hjk,hap⟩:j<k∧ap=true:=by simpa using g24
       have hltj:j<l.length:=by omega
       have hc1:=hs.elemAt hltj;have hc2:=hs.elemAt hlt;refine W.skip (thn_n (W.seq (W.block (W.seq (W.drawB ktm16_mixed kr_ ?_)))));refine LQ.val (fun w hw=>x_mv (v:=.slice _ _ _) rfl) rfl ?_;refine LQ.val (fun w hw=>x_mv (v:=.int _ _) rfl) rfl ?_;refine LQ.val (fun w hw=>x_ia1  Tryz.underlying22 ktm16_sz9 rfl rfl rfl om_) rfl ?_;refine LQ.val (fun w hw=>x_ld (v:=S _) ktm16_oc9 rfl (hw.keep hc1)) rfl ?_;refine LQ.val (fun w hw=>x_mv (v:=.slice _ _ _) rfl) rfl ?_;refine LQ.val (fun w hw=>x_mv (v:=.int _ _) rfl) rfl ?_;refine LQ.val (fun w hw=>x_ia1  Tryz.underlying22 ktm16_sz9 rfl rfl rfl om_) rfl ?_;refine LQ.val (fun w hw=>x_ld (v:=S _) ktm16_oc9 rfl (hw.keep hc2)) rfl ?_;refine LQ.val (fun w hw=>x_eqs rfl rfl) rfl ?_;refine LQ.nil ?_;intro w27 hw;have hB:=hB.carry hw;have hs:=hs.carry hw;refine thn_n (W.cond (b:=_) rfl (fun g35=>?_) (fun g35=>?_))
       ·have h35:=seq_t g35;refine W.seq (W.region (L.val (x_as (v:=.bool _) rfl) rfl ?_));refine L.nil (thn_n (W.ret (blk_r (thn_r (thn_r (blk_r (blk_r (thn_r (thn_r (blk_r (thn_r (fin_mk (.inr rfl) ?_))))))))))));exact ⟨vb (by
          have hne:nodup (l.take (k+1))=false:=by
            rw [take_snoc (d:=[]) hlt,nodup_snoc];have:(l.take k).contains (l.getD k [])=true:=by
              rw [← h35];have:l.getD j []∈l.take k:=by
                rw [List.getD_eq_getElem?_getD,List.getElem?_eq_getElem hltj,Option.getD_some];exact List.mem_take_iff_getElem.2 ⟨j,by omega,rfl⟩
              simpa using this
            rw [this];simp
          have:nodup l=false:=by
            cases hh:nodup l
            · rfl
            · rw [nodup_take hh] at hne;cases hne
          unfold names8;rw [this,hap];simp),hB⟩
       ·have h35:=seq_f g35;refine W.skip (blk_n (thn_n (W.region (L.val (x_mv (v:=.int _ _) rfl) rfl ?_))));refine L.val (x_add rfl rfl (wr64 om_)) rfl ?_;refine L.val (x_as (v:=.int _ _) rfl) rfl ?_;refine L.nil (thn_n ⟨rfl,?_⟩);refine ⟨_,?_,j+1,rfl,vi_,vi_,vi_,vi_,ao_,ao_,ao_,(by exact contains_snoc hltj hcon (fun e=>h35 e.symm))⟩;omega
      ·have h24:=g24;have ha2:(l.take (k+1)).all nameS=true:=by rw [take_snoc (d:=[]) hlt,List.all_append,ha];show (true && (nameS (l.getD k []) && true))=true;rw [h18];rfl
       have hn2:(!ap || nodup (l.take (k+1)))=true:=by
         cases hap:ap with
         | false=>rfl
         | true=>
           have hjk:j=k:=by
             rw [hap,Bool.and_true] at g24;have:=of_decide_eq_false g24;omega
           subst hjk;rw [hap] at hn;have hn:nodup (l.take j)=true:=hn;rw [take_snoc (d:=[]) hlt,nodup_snoc,hn,hcon];rfl
       refine W.exit (thn_x (thn_x (blk_hit ?_)));refine blk_n (thn_n (W.region (L.val (x_mv (v:=.int _ _) rfl) rfl ?_)));refine L.val (x_add rfl rfl (wr64 om_)) rfl ?_;refine L.val (x_as (v:=.int _ _) rfl) rfl ?_;refine L.nil (thn_n ⟨rfl,?_⟩);refine ⟨_,?_,k+1,rfl,vi_,vi_,vi_,ao_,ao_,ao_,(by exact ha2),(by exact hn2)⟩;omega
   ·have h10:=dlt_f g10;have hkl:k=l.length:=by omega
    subst hkl;rw [List.take_length] at ha hn;refine W.exit (thn_x (thn_x (blk_hit ?_)));refine thn_n (W.seq (W.region (L.val (x_as (v:=.bool _) rfl) rfl ?_)));refine L.nil (thn_n (W.ret (fin_mk (.inr rfl) ?_)));exact ⟨vb (by unfold names8;rw [ha,hn];rfl),hB⟩
theorem opaque08:∀ (N:Nat) (s:Sh),SizeOf.sizeOf s<N→∀ (A:Nat→Prop) (cs:List Value) (w:World),ShC A w cs s→
    Ret Tryz.prog 83 #[.agg cs.toArray] w fun v w'=>v=.bool (!s.allB notOp)∧Bel w w':=by
  intro N;induction N with
  | zero=>intro s h;omega
  | succ N ih=>
    intro s hN A cs w hs;obtain ⟨vn,vp,rfl,hn,hp,hof,hnm⟩:=hs.inv;obtain ⟨p,cap,row,rfl,p1,p2,p3,hr⟩:=hp;refine ret_of_W Tryz.func83 rfl (Nat.le_of_ble_eq_true rfl) (res1 rfl) ?_;have hB:=Gr.refl (fun _=>False) w;refine W.seq (W.region (L.box (cs:=_) rfl rfl (fun w1 bx1 hw hz1=>?_)));have hB:=hB.carry hw;have hr:=hr.carry hw;refine L.val (x_as (v:=.bool _) rfl) rfl ?_;refine L.nil (thn_n (W.seq (W.seq (W.region (L.val (x_as (v:=.int _ _) rfl) rfl ?_)))));refine L.nil (thn_n (W.block (W.loop (fun m' E w'=>∃ (k:Nat),m'=s.parts.length - k∧E 1=.pointer (some ⟨w.heap.size,0,none⟩)∧E 3=.int .i64 (k:Nat)∧(Bel w w')∧(ShRow A w' p row s.parts)∧(Box w' w.heap.size 45 [.int .i64 s.kind,S s.of,S s.name,vn,.slice p s.parts.length cap])∧(k≤s.parts.length)∧(allL notOp (s.parts.take k)=true)) (s.parts.length) ?_ ?_)))
    ·exact ⟨0,by omega,vi_,vi_,ao_,ao_,ao_,ao_,(by rfl)⟩
    ·rintro _ E wL4 ⟨k,em,e1,e3,hB,hr,bx1,hk,ha⟩;rw [upd_self e1,upd_self e3];refine W.seq (W.seq (W.region (L.val (x_mv (v:=.int _ _) rfl) rfl ?_)));refine L.val (x_fa ktm16_fo45_4 rfl) rfl ?_;refine L.val (x_ld (v:=.slice _ _ _) ktm16_oc23 rfl (bx1.cell0 rfl)) rfl ?_;refine L.val (x_len_slice Tryz.underlying23 rfl) rfl ?_;refine L.val (x_lss rfl rfl) rfl ?_;refine L.nil (thn_n (W.cond (b:=_) rfl (fun g8=>?_) (fun g8=>?_)))
     ·have h8:=of_decide_eq_true g8;have hlt:k<s.parts.length:=by omega
      obtain ⟨b,o,rfl,hc⟩:=hr.elem hlt;refine W.skip (thn_n (W.seq (W.block (W.seq (W.region (L.val (x_fa ktm16_fo45_4 rfl) rfl ?_))))));refine L.val (x_ld (v:=.slice _ _ _) ktm16_oc23 rfl (bx1.cell0 rfl)) rfl ?_;refine L.val (x_mv (v:=.int _ _) rfl) rfl ?_;refine L.val (x_ia (j:=k) Tryz.underlying23 ktm16_sz45 rfl rfl om_ om_) rfl ?_;refine L.val (x_ldn (vs:=row k) ktm16_ag45 rfl (hr.five k hlt) hc) rfl ?_;refine L.ret (x_call ktm16_en83 rfl) rfl (ih _ (by have:=Sh.part_lt hlt;omega) A _ _ (hr.each k hlt)) ?_;rintro _ w16 ⟨rfl,hw⟩;have hB:=hB.carry hw;have hr:=hr.carry hw;have bx1:=bx1.carry hw;refine L.nil (thn_n (W.cond (b:=_) rfl (fun g16=>?_) (fun g16=>?_)))
      ·have h16:=g16;refine W.seq (W.region (L.val (x_as (v:=.bool _) rfl) rfl ?_));refine L.nil (thn_n (W.ret (blk_r (thn_r (thn_r (blk_r (thn_r (fin_mk (.inr rfl) ?_))))))));exact ⟨vb (by rw [Sh.allB_eq,allL_miss hlt (not_t h16)];simp),hB⟩
      ·have h16:=g16;refine W.skip (blk_n (thn_n (W.region (L.val (x_mv (v:=.int _ _) rfl) rfl ?_))));refine L.val (x_add rfl rfl (wr64 om_)) rfl ?_;refine L.val (x_as (v:=.int _ _) rfl) rfl ?_;refine L.nil (thn_n ⟨rfl,?_⟩);refine ⟨_,?_,k+1,rfl,vi_,vi_,ao_,ao_,ao_,ao_,(by rw [allL_take hlt,ha,not_f h16];rfl)⟩;omega
     ·have h8:=dlt_f g8;refine W.exit (thn_x (thn_x (blk_hit ?_)));refine thn_n (W.seq (W.region (L.val (x_fa ktm16_fo45_0 rfl) rfl ?_)));refine L.val (x_ld (v:=.int _ _) ktm16_oc3 rfl (bx1.cell0 rfl)) rfl ?_;refine L.val (x_eql rfl rfl) rfl ?_;refine L.val (x_as (v:=.bool _) rfl) rfl ?_;refine L.nil (thn_n (W.ret (fin_mk (.inr rfl) ?_)));rw [List.take_of_length_le om_] at ha;exact ⟨vb (by rw [Sh.allB_eq,ha];simp [notOp]),hB⟩
theorem shapes08 (A:Nat→Prop) (v:Value) (l:List Sh) (w:World) (hs:ShsAt A w v l):
    Ret Tryz.prog 56 #[v] w fun r w'=>r=.bool (l.all typedS)∧Bel w w':=by
  obtain ⟨p,cap,row,rfl,p1,p2,p3,hr⟩:=hs;refine ret_of_W Tryz.func56 rfl (Nat.le_of_ble_eq_true rfl) (res1 rfl) ?_;have hB:=Gr.refl (fun _=>False) w;refine W.seq (W.region (L.val (x_as (v:=.bool _) rfl) rfl ?_));refine L.nil (thn_n (W.seq (W.seq (W.region (L.val (x_as (v:=.int _ _) rfl) rfl ?_)))));refine L.nil (thn_n (W.block (W.loop (fun m' E w'=>∃ (k:Nat),m'=l.length - k∧E 0=.slice p l.length cap∧E 3=.int .i64 (k:Nat)∧(Bel w w')∧(ShRow A w' p row l)∧(k≤l.length)∧((l.take k).all typedS=true)) (l.length) ?_ ?_)))
  ·exact ⟨0,by omega,vi_,vi_,ao_,ao_,ao_,(by rfl)⟩
  ·rintro _ E wL4 ⟨k,em,e0,e3,hB,hr,hk,ha⟩;rw [upd_self e0,upd_self e3];refine W.seq (W.seq (W.region (L.val (x_mv (v:=.int _ _) rfl) rfl ?_)));refine L.val (x_mv (v:=.slice _ _ _) rfl) rfl ?_;refine L.val (x_len_slice Tryz.underlying23 rfl) rfl ?_;refine L.val (x_lss rfl rfl) rfl ?_;refine L.nil (thn_n (W.cond (b:=_) rfl (fun g7=>?_) (fun g7=>?_)))
   ·have h7:=of_decide_eq_true g7;have hlt:k<l.length:=by omega
    obtain ⟨b,o,rfl,hc⟩:=hr.elem hlt;refine W.skip (thn_n (W.seq (W.block (W.seq (W.region (L.val (x_mv (v:=.slice _ _ _) rfl) rfl ?_))))));refine L.val (x_mv (v:=.int _ _) rfl) rfl ?_;refine L.val (x_ia (j:=k) Tryz.underlying23 ktm16_sz45 rfl rfl om_ om_) rfl ?_;refine L.val (x_ldn (vs:=row k) ktm16_ag45 rfl (hr.five k hlt) hc) rfl ?_;refine L.ret (x_call ktm16_en82 rfl) rfl (check07 A _ _ _ (hr.each k hlt)) ?_;rintro _ w14 ⟨rfl,hw⟩;have hB:=hB.carry hw;have hr:=hr.carry hw;refine L.val (x_neq rfl rfl) rfl ?_;refine L.val (x_mv (v:=.bool _) rfl) rfl ?_;refine' L.group 5 17 21 21 16 false rfl ?_ ?_ ?_;rotate_left 1
    ·intro g16 hg16;have h16:=dne_f g16;refine L.gyes' (dj:=16) (b:=_) rfl rfl g16 ?_;refine L.val (x_mv (v:=.slice _ _ _) rfl) rfl ?_;refine L.gyes' (dj:=16) (b:=_) rfl rfl g16 ?_;refine L.val (x_mv (v:=.int _ _) rfl) rfl ?_;refine L.gyes' (dj:=16) (b:=_) rfl rfl g16 ?_;refine L.val (x_ia (j:=k) Tryz.underlying23 ktm16_sz45 rfl rfl om_ om_) rfl ?_;refine L.gyes' (dj:=16) (b:=_) rfl rfl g16 ?_;refine L.val (x_ldn (vs:=row k) ktm16_ag45 rfl (hr.five k hlt) (hr.elemAt hlt)) rfl ?_;refine L.gyes' (dj:=16) (b:=_) rfl rfl g16 ?_;refine L.ret (x_call ktm16_en83 rfl) rfl (opaque08 _ _ (Nat.lt_succ_self _) A _ _ (hr.each k hlt)) ?_;rintro _ w21 ⟨rfl,hw⟩;have hB:=hB.carry hw;have hr:=hr.carry hw;have hg16:=hg16.carry hw;refine L.nil (thn_n ⟨rfl,?_,?_,fun _=>rfl⟩)
     ·exact hg16
     ·repeat (first | exact jeq.refl _ _ _ | refine jeq.upd rfl ?_ | refine jeq.jk rfl rfl ?_)
    ·intro g16;(iterate 5 refine L.gno (dj:=16) (b:=_) rfl rfl g16 rfl ?_);refine L.nil (thn_n ⟨rfl,Gr.refl _ _,?_⟩);refine ⟨?_,fun h=>h.elim⟩;repeat (first | exact jeq.refl _ _ _ | refine jeq.upd rfl ?_ | refine jeq.jk rfl rfl ?_)
    intro J16 w16 hw j16;have hB:=hB.carry hw;have hr:=hr.carry hw;refine L.val (x_or rfl j16) rfl ?_;refine L.nil (thn_n (W.cond (b:=_) rfl (fun g22=>?_) (fun g22=>?_)))
    ·have h22:=g22;have hq:typedS (l.getD k default)=false:=by
       unfold typedS;cases h1:(l.getD k default).allB notOp <;> rw [h1] at g22 <;> simp at g22 ⊢;omega
     refine W.seq (W.region (L.val (x_as (v:=.bool _) rfl) rfl ?_));refine L.nil (thn_n (W.ret (blk_r (thn_r (thn_r (blk_r (thn_r (fin_mk (.inr rfl) ?_))))))));exact ⟨vb (by
       rw [Eq.comm,List.all_eq_false];exact ⟨l.getD k default,by rw [List.getD_eq_getElem?_getD,List.getElem?_eq_getElem hlt];exact List.getElem_mem _,by rw [hq];simp⟩),hB⟩
    ·have h22:=g22;have hq:typedS (l.getD k default)=true:=by
       unfold typedS;cases h1:(l.getD k default).allB notOp <;> rw [h1] at g22 <;> simp at g22 ⊢;omega
     refine W.skip (blk_n (thn_n (W.region (L.val (x_mv (v:=.int _ _) rfl) rfl ?_))));refine L.val (x_add rfl rfl (wr64 om_)) rfl ?_;refine L.val (x_as (v:=.int _ _) rfl) rfl ?_;refine L.nil (thn_n ⟨rfl,?_⟩);refine ⟨_,?_,k+1,rfl,vi_,vi_,ao_,ao_,ao_,(by rw [take_snoc (d:=default) hlt,List.all_append,ha];show (true && (typedS (l.getD k default) && true))=true;rw [hq];rfl)⟩;omega
   ·have h7:=dlt_f g7;refine W.exit (thn_x (thn_x (blk_hit ?_)));refine thn_n (W.seq (W.region (L.val (x_as (v:=.bool _) rfl) rfl ?_)));refine L.nil (thn_n (W.ret (fin_mk (.inr rfl) ?_)));rw [List.take_of_length_le om_] at ha;exact ⟨vb (by rw [ha]),hB⟩
theorem lists08 (A:Nat→Prop) (s:Tm) (cs:List Value) (a b c d:Int) (w:World) (hs:TmC A w cs s):
    Ret Tryz.prog 58 #[.agg cs.toArray,.int .i64 a,.int .i64 b,.int .i64 c,.int .i64 d] w fun r w'=>r=.bool (roomIs s a b c d)∧Bel w w':=by
  obtain ⟨vn,vv,vh,vp,rfl,hn,hv,hsh,hp,hof,hnm,hi⟩:=hs.inv;obtain ⟨pn,cn,rfl,-⟩:=hn;obtain ⟨pv,cv,rfl,-⟩:=hv;obtain ⟨ph,ch,rh,rfl,-⟩:=hsh;obtain ⟨p,cap,row,rfl,-⟩:=hp;refine ret_of_W Tryz.func58 rfl (Nat.le_of_ble_eq_true rfl) (res1 rfl) ?_;have hB:=Gr.refl (fun _=>False) w;refine W.seq (W.region (L.box (cs:=_) rfl rfl (fun w5 bx5 hw hz5=>?_)));have hB:=hB.carry hw;refine L.val (x_as (v:=.bool _) rfl) rfl ?_;refine L.nil (thn_n (W.seq (W.region (L.val (x_fa ktm16_fo26_4 rfl) rfl ?_))));refine L.val (x_ld (v:=.slice _ _ _) ktm16_oc22 rfl (bx5.cell0 rfl)) rfl ?_;refine L.val (x_len_slice Tryz.underlying22 rfl) rfl ?_;refine L.val (x_mv (v:=.int _ _) rfl) rfl ?_;refine L.val (x_eql rfl rfl) rfl ?_;refine L.val (x_mv (v:=.bool _) rfl) rfl ?_;refine' L.group0 5 17 21 21 16 true rfl ?_ ?_ ?_;rotate_left 1
  ·intro g16;have h16:=of_decide_eq_true g16;refine L.gyes' (dj:=16) (b:=_) rfl rfl g16 ?_;refine L.val (x_fa ktm16_fo26_5 rfl) rfl ?_;refine L.gyes' (dj:=16) (b:=_) rfl rfl g16 ?_;refine L.val (x_ld (v:=.slice _ _ _) ktm16_oc22 rfl (bx5.cell0 rfl)) rfl ?_;refine L.gyes' (dj:=16) (b:=_) rfl rfl g16 ?_;refine L.val (x_len_slice Tryz.underlying22 rfl) rfl ?_;refine L.gyes' (dj:=16) (b:=_) rfl rfl g16 ?_;refine L.val (x_mv (v:=.int _ _) rfl) rfl ?_;refine L.gyes' (dj:=16) (b:=_) rfl rfl g16 ?_;refine L.val (x_eql rfl rfl) rfl ?_;refine L.nil (thn_n ⟨rfl,rfl,?_,rfl⟩);repeat (first | exact jeq.refl _ _ _ | refine jeq.upd rfl ?_ | refine jeq.jk rfl rfl ?_)
  ·intro g16;(iterate 5 refine L.gno (dj:=16) (b:=_) rfl rfl g16 rfl ?_);refine L.nil (thn_n ⟨rfl,rfl,?_⟩);repeat (first | exact jeq.refl _ _ _ | refine jeq.upd rfl ?_ | refine jeq.jk rfl rfl ?_)
  intro J16 j16;refine L.val (x_and rfl j16) rfl ?_;refine L.val (x_mv (v:=.bool _) rfl) rfl ?_;refine' L.group0 5 24 28 28 23 true rfl ?_ ?_ ?_;rotate_left 1
  ·intro g23;have h23:=g23;refine L.gyes' (dj:=23) (b:=_) rfl rfl g23 ?_;refine L.val (x_fa ktm16_fo26_6 rfl) rfl ?_;refine L.gyes' (dj:=23) (b:=_) rfl rfl g23 ?_;refine L.val (x_ld (v:=.slice _ _ _) ktm16_oc23 rfl (bx5.cell0 rfl)) rfl ?_;refine L.gyes' (dj:=23) (b:=_) rfl rfl g23 ?_;refine L.val (x_len_slice Tryz.underlying23 rfl) rfl ?_;refine L.gyes' (dj:=23) (b:=_) rfl rfl g23 ?_;refine L.val (x_mv (v:=.int _ _) rfl) rfl ?_;refine L.gyes' (dj:=23) (b:=_) rfl rfl g23 ?_;refine L.val (x_eql rfl rfl) rfl ?_;refine L.nil (thn_n ⟨rfl,rfl,?_,rfl⟩);repeat (first | exact jeq.refl _ _ _ | refine jeq.upd rfl ?_ | refine jeq.jk rfl rfl ?_)
  ·intro g23;(iterate 5 refine L.gno (dj:=23) (b:=_) rfl rfl g23 rfl ?_);refine L.nil (thn_n ⟨rfl,rfl,?_⟩);repeat (first | exact jeq.refl _ _ _ | refine jeq.upd rfl ?_ | refine jeq.jk rfl rfl ?_)
  intro J23 j23;refine L.val (x_and rfl j23) rfl ?_;refine L.val (x_mv (v:=.bool _) rfl) rfl ?_;refine' L.group0 5 31 35 35 30 true rfl ?_ ?_ ?_;rotate_left 1
  ·intro g30;have h30:=g30;refine L.gyes' (dj:=30) (b:=_) rfl rfl g30 ?_;refine L.val (x_fa ktm16_fo26_7 rfl) rfl ?_;refine L.gyes' (dj:=30) (b:=_) rfl rfl g30 ?_;refine L.val (x_ld (v:=.slice _ _ _) ktm16_oc24 rfl (bx5.cell0 rfl)) rfl ?_;refine L.gyes' (dj:=30) (b:=_) rfl rfl g30 ?_;refine L.val (x_len_slice Tryz.underlying24 rfl) rfl ?_;refine L.gyes' (dj:=30) (b:=_) rfl rfl g30 ?_;refine L.val (x_mv (v:=.int _ _) rfl) rfl ?_;refine L.gyes' (dj:=30) (b:=_) rfl rfl g30 ?_;refine L.val (x_eql rfl rfl) rfl ?_;refine L.nil (thn_n ⟨rfl,rfl,?_,rfl⟩);repeat (first | exact jeq.refl _ _ _ | refine jeq.upd rfl ?_ | refine jeq.jk rfl rfl ?_)
  ·intro g30;(iterate 5 refine L.gno (dj:=30) (b:=_) rfl rfl g30 rfl ?_);refine L.nil (thn_n ⟨rfl,rfl,?_⟩);repeat (first | exact jeq.refl _ _ _ | refine jeq.upd rfl ?_ | refine jeq.jk rfl rfl ?_)
  intro J30 j30;refine L.val (x_and rfl j30) rfl ?_;refine L.val (x_as (v:=.bool _) rfl) rfl ?_;refine L.nil (thn_n (W.ret (fin_mk (.inr rfl) ?_)));exact ⟨vb (by unfold roomIs;simp [Bool.and_assoc]),hB⟩
end Go.Gx
namespace Go.Gx
open Go.Lib
def bytesN (p:Nat):List Nat:=
  if p<128 then [p] else if p<2048 then [192+p / 64,128+p % 64]
  else if p<65536 then [224+p / 4096,128+p / 64 % 64,128+p % 64]
  else [240+p / 262144,128+p / 4096 % 64,128+p / 64 % 64,128+p % 64]
def pointI (p:Int):Bool:=(decide (0≤p) && decide (p≤1114111)) && (decide (p<55296) || decide (57343<p))
def fstK (b:Nat):Nat:=if 240≤b then 4 else if 224≤b then 3 else if 192≤b then 2 else 1
def fstB (b:Nat):Nat:=if 240≤b then b - 240 else if 224≤b then b - 224 else if 192≤b then b - 192 else b
theorem bytes_1 {p:Nat} {a:Nat}:bytesN p=[a]↔p<128∧a=p:=by
  unfold bytesN
  repeat' split
  all_goals (simp only [List.cons.injEq,and_true,and_false,reduceCtorEq,false_iff];omega)
theorem bytes_2 {p:Nat} {a b:Nat}:bytesN p=[a,b]↔128≤p∧p<2048∧a=192+p / 64∧b=128+p % 64:=by
  unfold bytesN
  repeat' split
  all_goals (simp only [List.cons.injEq,and_true,and_false,reduceCtorEq,false_iff];omega)
theorem bytes_3 {p:Nat} {a b c:Nat}:bytesN p=[a,b,c]↔2048≤p∧p<65536∧a=224+p / 4096∧b=128+p / 64 % 64∧c=128+p % 64:=by
  unfold bytesN
  repeat' split
  all_goals (simp only [List.cons.injEq,and_true,and_false,reduceCtorEq,false_iff];omega)
theorem bytes_4 {p:Nat} {a b c d:Nat}:bytesN p=[a,b,c,d]↔65536≤p∧a=240+p / 262144∧b=128+p / 4096 % 64∧c=128+p / 64 % 64∧d=128+p % 64:=by
  unfold bytesN
  repeat' split
  all_goals (simp only [List.cons.injEq,and_true,and_false,reduceCtorEq,false_iff];omega)
def fstV (b0 b1 b2 b3:Nat):Int:=
  if fstK b0=4 then (((fstB b0:Int) * 64+b1 - 128) * 64+b2 - 128) * 64+b3 - 128
  else if fstK b0=3 then ((fstB b0:Int) * 64+b1 - 128) * 64+b2 - 128
  else if fstK b0=2 then (fstB b0:Int) * 64+b1 - 128 else fstB b0
def FstOk (n b0 b1 b2 b3:Nat):Prop:=fstK b0≤n∧pointI (fstV b0 b1 b2 b3)=true∧bytesN (fstV b0 b1 b2 b3).toNat=[b0,b1,b2,b3].take (fstK b0)
theorem point_iff {p:Int}:pointI p=true↔0≤p∧p≤1114111∧(p<55296∨57343<p):=by
  unfold pointI;simp only [Bool.and_eq_true,Bool.or_eq_true,decide_eq_true_eq];omega
theorem fst_low {n b0 b1 b2 b3:Nat} (hn:1≤n) (h:b0<128):fstK b0=1∧FstOk n b0 b1 b2 b3:=by
  have hk : fstK b0 = 1 := by unfold fstK;repeat' split
                              all_goals omega
  have hb : fstB b0 = b0 := by unfold fstB;repeat' split
                               all_goals omega
  have hv:fstV b0 b1 b2 b3=b0:=by unfold fstV;rw [hk,hb];rfl
  refine ⟨hk,by omega,?_,?_⟩
  · rw [hv,point_iff];omega
  · rw [hv,hk];show bytesN (Int.toNat (b0:Int))=[b0];rw [bytes_1];omega
theorem fst_high {n b0 b1 b2 b3:Nat} (h0:128≤b0) (h0':b0<256) (h1:b1<256) (h2:b2<256) (h3:b3<256):
    (FstOk n b0 b1 b2 b3→checkN n b1 b2 b3 (firstT b0 % 8) (accLo (firstT b0 / 16)) (accHi (firstT b0 / 16))=some (fstK b0))∧(¬ FstOk n b0 b1 b2 b3→checkN n b1 b2 b3 (firstT b0 % 8) (accLo (firstT b0 / 16)) (accHi (firstT b0 / 16))=none):=by
  have key2:∀ sz lo hi,firstT b0 % 8=sz→accLo (firstT b0 / 16)=lo→accHi (firstT b0 / 16)=hi→(FstOk n b0 b1 b2 b3→checkN n b1 b2 b3 sz lo hi=some (fstK b0))∧(¬ FstOk n b0 b1 b2 b3→checkN n b1 b2 b3 sz lo hi=none)→
      (FstOk n b0 b1 b2 b3→checkN n b1 b2 b3 (firstT b0 % 8) (accLo (firstT b0 / 16)) (accHi (firstT b0 / 16))=some (fstK b0))∧(¬ FstOk n b0 b1 b2 b3→checkN n b1 b2 b3 (firstT b0 % 8) (accLo (firstT b0 / 16)) (accHi (firstT b0 / 16))=none):=
    fun sz lo hi e1 e2 e3 h=>by rw [e1,e2,e3];exact h
  by_cases c0:b0<192
  · have hk : fstK b0 = 1 := by unfold fstK;repeat' split
                                all_goals omega
    have hb : fstB b0 = b0 := by unfold fstB;repeat' split
                                 all_goals omega
    refine ⟨fun ⟨_,_,h⟩=>?_,fun _=>by simp [firstT,checkN,show ¬ b0<128 by omega,show b0<194 by omega]⟩;have hv:fstV b0 b1 b2 b3=b0:=by unfold fstV;rw [hk,hb];rfl
    rw [hv,hk] at h;have h:bytesN (Int.toNat (b0:Int))=[b0]:=h;rw [bytes_1] at h;omega
  by_cases c1:b0<224
  · have hk : fstK b0 = 2 := by unfold fstK;repeat' split
                                all_goals omega
    have hb : fstB b0 = b0 - 192 := by unfold fstB;repeat' split
                                       all_goals omega
    have hv:fstV b0 b1 b2 b3=((b0 - 192:Nat):Int) * 64+b1 - 128:=by unfold fstV;rw [hk,hb];rfl
    have hiff:FstOk n b0 b1 b2 b3↔2≤n∧(194≤b0∧128≤b1∧b1≤191):=by
      unfold FstOk;rw [hv,hk,point_iff];show _∧_∧bytesN _=[b0,b1]↔_;rw [bytes_2];omega
    rw [hiff,hk];by_cases c2:b0<194
    · refine ⟨by omega,fun _=>by simp [firstT,checkN,show ¬ b0<128 by omega,c2]⟩
    · have:=key2 2 128 191 (by simp [firstT,show ¬ b0<128 by omega,c2,c1]) (by simp [firstT,accLo,show ¬ b0<128 by omega,c2,c1]) (by simp [firstT,accHi,show ¬ b0<128 by omega,c2,c1]);rw [hiff,hk] at this;refine this ?_;unfold checkN;rw [if_pos rfl];constructor
      · intro h;rw [if_neg om_]
      · intro h;rw [if_pos om_]
  by_cases c2:b0<240
  · have hk : fstK b0 = 3 := by unfold fstK;repeat' split
                                all_goals omega
    have hb : fstB b0 = b0 - 224 := by unfold fstB;repeat' split
                                       all_goals omega
    have hv:fstV b0 b1 b2 b3=(((b0 - 224:Nat):Int) * 64+b1 - 128) * 64+b2 - 128:=by unfold fstV;rw [hk,hb];rfl
    have hiff:FstOk n b0 b1 b2 b3↔3≤n∧(b0=224→160≤b1)∧(b0=237→b1≤159)∧128≤b1∧b1≤191∧128≤b2∧b2≤191:=by
      unfold FstOk;rw [hv,hk,point_iff];show _∧_∧bytesN _=[b0,b1,b2]↔_;rw [bytes_3];omega
    have fin:∀ lo hi,firstT b0 % 8=3→accLo (firstT b0 / 16)=lo→accHi (firstT b0 / 16)=hi→((3≤n∧(b0=224→160≤b1)∧(b0=237→b1≤159)∧128≤b1∧b1≤191∧128≤b2∧b2≤191)↔¬ (n<3∨b1<lo∨hi<b1∨b2<128∨191<b2))→_:=fun lo hi e1 e2 e3 h=>by
      refine key2 3 lo hi e1 e2 e3 ?_;rw [hiff,hk,h];unfold checkN;rw [if_neg (by decide),if_pos rfl];constructor
      · intro h;rw [if_neg h]
      · intro h;rw [if_pos (Decidable.not_not.1 h)]
    have n0:¬ b0<194:=by omega
    have n1:¬ b0<224:=c1;by_cases c3:b0=224
    · subst c3;exact fin 160 191 (by decide) (by decide) (by decide) om_
    by_cases c4:b0<237
    · exact fin 128 191 (by simp [firstT,show ¬ b0<128 by omega,n0,n1,c3,c4]) (by simp [firstT,accLo,show ¬ b0<128 by omega,n0,n1,c3,c4]) (by simp [firstT,accHi,show ¬ b0<128 by omega,n0,n1,c3,c4]) om_
    by_cases c5:b0=237
    · subst c5;exact fin 128 159 (by decide) (by decide) (by decide) om_
    · exact fin 128 191 (by simp [firstT,show ¬ b0<128 by omega,n0,n1,c3,c4,c5,c2]) (by simp [firstT,accLo,show ¬ b0<128 by omega,n0,n1,c3,c4,c5,c2]) (by simp [firstT,accHi,show ¬ b0<128 by omega,n0,n1,c3,c4,c5,c2]) om_
  · have hk : fstK b0 = 4 := by unfold fstK;repeat' split
                                all_goals omega
    have hb : fstB b0 = b0 - 240 := by unfold fstB;repeat' split
                                       all_goals omega
    have hv:fstV b0 b1 b2 b3=((((b0 - 240:Nat):Int) * 64+b1 - 128) * 64+b2 - 128) * 64+b3 - 128:=by unfold fstV;rw [hk,hb];rfl
    have hiff:FstOk n b0 b1 b2 b3↔4≤n∧b0≤244∧(b0=240→144≤b1)∧(b0=244→b1≤143)∧128≤b1∧b1≤191∧128≤b2∧b2≤191∧128≤b3∧b3≤191:=by
      unfold FstOk;rw [hv,hk,point_iff];show _∧_∧bytesN _=[b0,b1,b2,b3]↔_;rw [bytes_4];omega
    have fin:∀ lo hi,firstT b0 % 8=4→accLo (firstT b0 / 16)=lo→accHi (firstT b0 / 16)=hi→((4≤n∧b0≤244∧(b0=240→144≤b1)∧(b0=244→b1≤143)∧128≤b1∧b1≤191∧128≤b2∧b2≤191∧128≤b3∧b3≤191)↔¬ (n<4∨b1<lo∨hi<b1∨b2<128∨191<b2∨b3<128∨191<b3))→_:=fun lo hi e1 e2 e3 h=>by
      refine key2 4 lo hi e1 e2 e3 ?_;rw [hiff,hk,h];unfold checkN;rw [if_neg (by decide),if_neg (by decide),if_pos rfl];constructor
      · intro h;rw [if_neg h]
      · intro h;rw [if_pos (Decidable.not_not.1 h)]
    have n0:¬ b0<194:=by omega
    have n1:¬ b0<224:=c1;have n2:¬ b0=224:=by omega
    have n3:¬ b0<237:=by omega
    have n4:¬ b0=237:=by omega
    by_cases c6:b0=240
    · subst c6;exact fin 144 191 (by decide) (by decide) (by decide) om_
    by_cases c7:b0<244
    · exact fin 128 191 (by simp [firstT,show ¬ b0<128 by omega,n0,n1,n2,n3,n4,c2,c6,c7]) (by simp [firstT,accLo,show ¬ b0<128 by omega,n0,n1,n2,n3,n4,c2,c6,c7]) (by simp [firstT,accHi,show ¬ b0<128 by omega,n0,n1,n2,n3,n4,c2,c6,c7]) om_
    by_cases c8:b0=244
    · subst c8;exact fin 128 143 (by decide) (by decide) (by decide) om_
    · refine ⟨fun h=>by rw [hiff] at h;omega,fun _=>by simp [firstT,checkN,show ¬ b0<128 by omega,n0,n1,n2,n3,n4,c2,c6,c7,c8]⟩
def fstOkS (s:Str):Prop:=FstOk s.length (s.getD 0 0).toNat (s.getD 1 0).toNat (s.getD 2 0).toNat (s.getD 3 0).toNat
theorem valid_fst {s:Str} (hne:s≠[]):(fstOkS s→validD s=validD (s.drop (fstK (s.getD 0 0).toNat)))∧(¬ fstOkS s→validD s=false):=by
  have hl:1≤s.length:=List.length_pos_iff.2 hne;have b0:=(s.getD 0 0).toNat_lt;rcases Nat.lt_or_ge (s.getD 0 0).toNat 128 with h | h
  · obtain ⟨hk,hf⟩:=fst_low (n:=s.length) (b1:=(s.getD 1 0).toNat) (b2:=(s.getD 2 0).toNat) (b3:=(s.getD 3 0).toNat) hl h;refine ⟨fun _=>?_,fun hn=>absurd hf hn⟩;rw [hk];obtain ⟨c,t,rfl⟩:=List.exists_cons_of_ne_nil hne;exact validD_cons c t h
  · have hh:=fst_high (n:=s.length) h b0 (s.getD 1 0).toNat_lt (s.getD 2 0).toNat_lt (s.getD 3 0).toNat_lt;refine ⟨fun hf=>?_,fun hf=>?_⟩
    · rw [validD_lead s hne h,hh.1 hf]
    · rw [validD_lead s hne h,hh.2 hf]
end Go.Gx
