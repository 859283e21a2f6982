/- Which trees may be expressions; which are the same: the laws by the document's answers. Conditions: none. -/
import Derived.Test.YtfbcfdhhgdmgkaaGreatDoorDkTm19
import Derived.Test.YtfbcfdhhgdmgkaaGreatDoorDkTm14
namespace Go.Gx
open Go.Proofs
theorem klawtmc_en12:Go.Proofs.Enters Tryz.prog 12:=Go.Proofs.enters_of Tryz.func12 kr_ rfl
theorem klawtmc_en13:Go.Proofs.Enters Tryz.prog 13:=Go.Proofs.enters_of Tryz.func13 kr_ rfl
theorem klawtmc_en14:Go.Proofs.Enters Tryz.prog 14:=Go.Proofs.enters_of Tryz.func14 kr_ rfl
theorem sames_law (l:List Tm) (v:Value) (w:World) (h:RecsAt TmC 9 (fun _=>False) w v l) (hT:Tabs w) (hM:∀ i,i<l.length→(l.getD i default).allB limB=true) (hL:∀ i,i<l.length→(l.getD i default).allB limN=true):
    Ret Tryz.prog 4 #[v] w fun v w'=>v=.bool true∧Bel w w':=by
  obtain ⟨p,cap,row,rfl,-⟩:=id h;refine ret_of_W Tryz.func4 rfl (Nat.le_of_ble_eq_true rfl) (res1 rfl) ?_;have hB:=Gr.refl (fun _=>False) w;refine W.seq (W.region (L.val (x_as (v:=.bool _) rfl) rfl ?_));refine L.nil (thn_n (W.seq (W.seq (W.region (L.val (x_mv (v:=.slice _ _ _) rfl) rfl ?_)))));refine L.val (x_len_slice Tryz.underlying24 rfl) rfl ?_;refine L.val (x_gtr rfl rfl) rfl ?_;refine L.nil (thn_n (W.cond (b:=_) rfl (fun g5=>?_) (fun g5=>?_)))
  ·have h5:=of_decide_eq_true g5;refine W.seq (W.region (L.ret (x_call klawtmc_en12 rfl) rfl (awake08 _ (hT.carry hB)) ?_));rintro _ w6 ⟨rfl,hw⟩;have hB:=hB.carry hw;have h:=h.carry hw;refine L.val (x_as (v:=.bool _) rfl) rfl ?_;refine L.nil (thn_n (W.ret (thn_r (fin_mk (.inr rfl) ?_))));exact ⟨rfl,hB⟩
  ·have h5:=dlt_f g5;refine W.skip (thn_n (W.seq (W.region (L.val (x_mv (v:=.slice _ _ _) rfl) rfl ?_))));refine L.ret (x_call klawtmc_en13 rfl) rfl (same_tm _ _ l _ h (hT.carry hB) hM) ?_;rintro _ w8 ⟨rfl,hw⟩;have hB:=hB.carry hw;have h:=h.carry hw;refine L.val (x_mv (v:=.slice _ _ _) rfl) rfl ?_;refine L.ret (x_call klawtmc_en14 rfl) rfl (same08 _ _ l _ h hM hL) ?_;rintro _ w10 ⟨rfl,hw⟩;have hB:=hB.carry hw;have h:=h.carry hw;refine L.val (x_eqb Tryz.underlying4 rfl rfl) rfl ?_;refine L.val (x_mv (v:=.bool _) rfl) rfl ?_;refine L.splitat (dj:=12) (b:=_) rfl (fun g12=>?_) (fun g12=>?_)
   ·have h12:=g12;refine L.gyes' (dj:=12) (b:=_) rfl rfl g12 ?_;refine L.ret (x_call klawtmc_en12 rfl) rfl (awake08 _ (hT.carry hB)) ?_;rintro _ w13 ⟨rfl,hw⟩;have hB:=hB.carry hw;have h:=h.carry hw;refine L.val (x_pick_t (v:=.bool _) (congrArg Value.bool g12) rfl) rfl ?_;refine L.val (x_as (v:=.bool _) rfl) rfl ?_;refine L.nil (thn_n (W.ret (fin_mk (.inr rfl) ?_)));exact ⟨rfl,hB⟩
   ·have h12:=g12;simp at g12
end Go.Gx
