/- The program's own equality of types. Conditions: none. -/
import Derived.Test.YtfbcfdhhgdmgkaaGreatDoorDbSrtK
import Derived.Test.YtfbcfdhhgdmgkaaGreatDoorDbTake
namespace Go.Gx
open Go.Proofs
theorem keql_mixed:Tryz.prog.follows .mixedOrders=true:=by kernel_rfl
theorem keql_oc9:oneCellT Tryz.prog 9=true:=by kernel_rfl
theorem keql_sz9:(Tryz.prog.info? 9).map (·.size)=some 1:=by kernel_rfl
theorem strs_eq (A A':Nat→Prop) (v u:Value) (l m:List Str) (w:World) (hl:StrsAt A w v l) (hm:StrsAt A' w u m):
    Ret Tryz.prog 35 #[v,u] w fun r w'=>r=.bool (decide (l=m))∧Bel w w':=by
  obtain ⟨p,cap,rfl,-,-,l3,-⟩:=id hl;obtain ⟨q,qap,rfl,-,-,m3,-⟩:=id hm;refine ret_of_W Tryz.func35 rfl (Nat.le_of_ble_eq_true rfl) (res1 rfl) ?_;have hB:=Gr.refl (fun _=>False) w;refine W.seq (W.region (L.val (x_as (v:=.bool _) rfl) rfl ?_));refine L.nil (thn_n (W.seq (W.seq (W.region (L.val (x_mv (v:=.slice _ _ _) rfl) rfl ?_)))));refine L.val (x_len_slice Tryz.underlying22 rfl) rfl ?_;refine L.val (x_mv (v:=.slice _ _ _) rfl) rfl ?_;refine L.val (x_len_slice Tryz.underlying22 rfl) rfl ?_;refine L.val (x_neq rfl rfl) rfl ?_;refine L.nil (thn_n (W.cond (b:=_) rfl (fun g10=>?_) (fun g10=>?_)))
  ·have h10:=dne_t g10;refine W.seq (W.region (L.val (x_as (v:=.bool _) rfl) rfl ?_));refine L.nil (thn_n (W.ret (thn_r (fin_mk (.inr rfl) ?_))));exact ⟨vb (Eq.symm (decide_eq_false (by rintro rfl;omega))),hB⟩
  ·have h10:=dne_f g10;refine W.skip (thn_n (W.seq (W.seq (W.region (L.val (x_mv (v:=.slice _ _ _) rfl) rfl ?_)))));refine L.val (x_len_slice Tryz.underlying22 rfl) rfl ?_;refine L.val (x_mv (v:=.int _ _) rfl) rfl ?_;refine L.nil (thn_n (W.block (W.loop (fun m' E w'=>∃ (k:Nat),m'=l.length - k∧E 0=.slice p l.length cap∧E 1=.slice q m.length qap∧E 12=.int .i64 (l.length:Nat)∧E 13=.int .i64 (k:Nat)∧(Bel w w')∧(StrsAt A w' (.slice p l.length cap) l)∧(StrsAt A' w' (.slice q m.length qap) m)∧(k≤l.length)∧(l.take k=m.take k)) (l.length) ?_ ?_)))
   ·exact ⟨0,by omega,vi_,vi_,vi_,vi_,ao_,ao_,ao_,ao_,(by rfl)⟩
   ·rintro _ E wL14 ⟨k,em,e0,e1,e12,e13,hB,hl,hm,hk,ht⟩;rw [upd_self e0,upd_self e1,upd_self e12,upd_self e13];refine W.seq (W.region (L.val (x_lss rfl rfl) rfl ?_));refine L.nil (thn_n (W.seq (W.cond (b:=_) rfl (fun g14=>?_) (fun g14=>?_))))
    ·have h14:=of_decide_eq_true g14;have hlt:k<l.length:=by omega
     have hlt':k<m.length:=by omega
     obtain ⟨b,o,rfl,-⟩:=hl.elem hlt;obtain ⟨b',o',rfl,-⟩:=hm.elem hlt';refine W.skip (thn_n (W.seq (W.block (W.seq (W.region (L.val (x_mv (v:=.int _ _) rfl) rfl ?_))))));refine L.val (x_as (v:=.int _ _) rfl) rfl ?_;refine L.nil (thn_n (W.seq (W.drawB keql_mixed kr_ ?_)));refine LQ.val (fun w hw=>x_mv (v:=.slice _ _ _) rfl) rfl ?_;refine LQ.val (fun w hw=>x_mv (v:=.int _ _) rfl) rfl ?_;refine LQ.val (fun w hw=>x_ia1 (j:=k) Tryz.underlying22 keql_sz9 rfl rfl om_ om_) rfl ?_;refine LQ.val (fun w hw=>x_ld (v:=S _) keql_oc9 rfl (hw.keep (hl.elemAt hlt))) rfl ?_;refine LQ.val (fun w hw=>x_mv (v:=.slice _ _ _) rfl) rfl ?_;refine LQ.val (fun w hw=>x_mv (v:=.int _ _) rfl) rfl ?_;refine LQ.val (fun w hw=>x_ia1 (j:=k) Tryz.underlying22 keql_sz9 rfl rfl om_ om_) rfl ?_;refine LQ.val (fun w hw=>x_ld (v:=S _) keql_oc9 rfl (hw.keep (hm.elemAt hlt'))) rfl ?_;refine LQ.val (fun w hw=>x_nes rfl rfl) rfl ?_;refine LQ.nil ?_;intro w16 hw;have hB:=hB.carry hw;have hl:=hl.carry hw;have hm:=hm.carry hw;refine thn_n (W.cond (b:=_) rfl (fun g24=>?_) (fun g24=>?_))
     ·have h24:=sne_t g24;refine W.seq (W.region (L.val (x_as (v:=.bool _) rfl) rfl ?_));refine L.nil (thn_n (W.ret (blk_r (thn_r (thn_r (blk_r (thn_r (fin_mk (.inr rfl) ?_))))))));exact ⟨vb (Eq.symm (decide_eq_false (by rintro rfl;exact h24 rfl))),hB⟩
     ·have h24:=sne_f g24;refine W.skip (blk_n (thn_n (W.region (L.val (x_add rfl rfl (wr64 om_)) rfl ?_))));refine L.val (x_mv (v:=.int _ _) rfl) rfl ?_;refine L.nil (thn_n ⟨rfl,?_⟩);refine ⟨_,?_,k+1,rfl,vi_,vi_,vi_,vi_,ao_,ao_,ao_,ao_,(by exact take_eq_snoc (d:=[]) hlt hlt' ht h24)⟩;omega
    ·have h14:=dlt_f g14;refine W.exit (thn_x (thn_x (blk_hit ?_)));refine thn_n (W.seq (W.region (L.val (x_as (v:=.bool _) rfl) rfl ?_)));refine L.nil (thn_n (W.ret (fin_mk (.inr rfl) ?_)));rw [List.take_of_length_le om_,List.take_of_length_le om_] at ht;exact ⟨vb (Eq.symm (decide_eq_true ht)),hB⟩
open Classical in
noncomputable def eqL (l m:List Sh):Bool:=decide (l=m)
theorem eqL_t {a b:List Sh} (h:a=b):eqL a b=true:=by unfold eqL;simpa using h
theorem eqL_f {a b:List Sh} (h:a≠b):eqL a b=false:=by unfold eqL;simpa using h
theorem eqL_iff {a b:List Sh}:eqL a b=true↔a=b:=by unfold eqL;simp
end Go.Gx
