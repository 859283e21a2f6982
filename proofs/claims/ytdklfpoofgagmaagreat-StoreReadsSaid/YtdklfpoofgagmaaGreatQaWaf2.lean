/- A log's commit through a fall. Conditions: none. -/
import Derived.Test.YtdklfpoofgagmaaGreatQaDsf5
namespace Go.Gx
open Go.Proofs
theorem kwaf2_ag132:aggT Tryz.prog 132 4=true:=by kernel_rfl
theorem kwaf2_en107:Go.Proofs.Enters Tryz.prog 107:=Go.Proofs.enters_of Tryz.func107 kr_ rfl
theorem kwaf2_en108:Go.Proofs.Enters Tryz.prog 108:=Go.Proofs.enters_of Tryz.func108 kr_ rfl
theorem kwaf2_en109:Go.Proofs.Enters Tryz.prog 109:=Go.Proofs.enters_of Tryz.func109 kr_ rfl
theorem kwaf2_en85:Go.Proofs.Enters Tryz.prog 85:=Go.Proofs.enters_of Tryz.func85 kr_ rfl
theorem kwaf2_en87:Go.Proofs.Enters Tryz.prog 87:=Go.Proofs.enters_of Tryz.func87 kr_ rfl
theorem kwaf2_en88:Go.Proofs.Enters Tryz.prog 88:=Go.Proofs.enters_of Tryz.func88 kr_ rfl
theorem kwaf2_fo132_0:fieldOff Tryz.prog 132 0=some 0:=by kernel_rfl
theorem kwaf2_fo132_1:fieldOff Tryz.prog 132 1=some 1:=by kernel_rfl
theorem kwaf2_fo134_0:fieldOff Tryz.prog 134 0=some 0:=by kernel_rfl
theorem kwaf2_fo134_1:fieldOff Tryz.prog 134 1=some 4:=by kernel_rfl
theorem kwaf2_mixed:Tryz.prog.follows .mixedOrders=true:=by kernel_rfl
theorem kwaf2_oc3:oneCellT Tryz.prog 3=true:=by kernel_rfl
theorem kwaf2_oc35:oneCellT Tryz.prog 35=true:=by kernel_rfl
theorem kwaf2_oc80:oneCellT Tryz.prog 80=true:=by kernel_rfl
theorem wrF_alive {D:Dk} {K:Fl} {i:Nat} {s:Str} (h:¬ D.armed=1):wrF D K i s={ wrD D i s with armed:=D.armed - 1 }:=by unfold wrF;rw [if_neg h]
theorem flF_alive {D:Dk} {K:Fl} (h:¬ D.armed=1):flF D K={ flD D with armed:=D.armed - 1 }:=by unfold flF;rw [if_neg h]
theorem Kn_alive {D:Dk} {K:Fl} (h:¬ D.armed=1):Kn D K=K:=by unfold Kn;rw [if_neg h]
theorem comF_1 {D:Dk} {K:Fl} {ws:List (Nat × Str)} {sl:Nat} {hd:Str} (h:(runW K D ws).dead=true):comF D K ws sl hd=runW K D ws:=by unfold comF;dsimp only;rw [if_pos h]
def comG (K:Fl) (A:Dk) (sl:Nat) (hd:Str):Dk:=
  if (wrF A K sl (zeros 64)).dead then wrF A K sl (zeros 64) else
    if (flF (wrF A K sl (zeros 64)) K).dead then flF (wrF A K sl (zeros 64)) K else
      if (wrF (flF (wrF A K sl (zeros 64)) K) K sl hd).dead then wrF (flF (wrF A K sl (zeros 64)) K) K sl hd else flF (wrF (flF (wrF A K sl (zeros 64)) K) K sl hd) K
theorem comF_tail {D:Dk} {K:Fl} {ws:List (Nat × Str)} {sl:Nat} {hd:Str} (h:(runW K D ws).dead=false):comF D K ws sl hd=comG K (runW K D ws) sl hd:=by
  unfold comF comG;dsimp only;rw [h,if_neg (by decide)]
section
variable {K:Fl} {A B C E:Dk} {sl:Nat} {hd:Str}
theorem comG_2 (e1:wrF A K sl (zeros 64)=B) (h1:B.dead=true):comG K A sl hd=B:=by unfold comG;rw [e1,if_pos h1]
theorem comG_3 (e1:wrF A K sl (zeros 64)=B) (h1:B.dead=false) (e2:flF B K=C) (h2:C.dead=true):comG K A sl hd=C:=by unfold comG;rw [e1,h1,if_neg (by decide),e2,if_pos h2]
theorem comG_4 (e1:wrF A K sl (zeros 64)=B) (h1:B.dead=false) (e2:flF B K=C) (h2:C.dead=false) (e3:wrF C K sl hd=E) (h3:E.dead=true):comG K A sl hd=E:=by unfold comG;rw [e1,h1,if_neg (by decide),e2,h2,if_neg (by decide),e3,if_pos h3]
theorem comG_5 (e1:wrF A K sl (zeros 64)=B) (h1:B.dead=false) (e2:flF B K=C) (h2:C.dead=false) (e3:wrF C K sl hd=E) (h3:E.dead=false):comG K A sl hd=flF E K:=by unfold comG;rw [e1,h1,if_neg (by decide),e2,h2,if_neg (by decide),e3,h3,if_neg (by decide)]
end
theorem runW_alive {D:Dk} {K:Fl} {l:List (Nat × Str)} (hd:D.dead=false) (h:(runW K D l).dead=false):runW K D l={ D with ca:=D.ca++l,ops:=D.ops+l.length,armed:=D.armed - l.length }:=by
  rcases runW_case K l D hd with ⟨h1,-⟩ | ⟨h1,-⟩
  · exact h1
  · rw [h] at h1;cases h1
theorem runW_next {D:Dk} {K:Fl} {l:List (Nat × Str)} {j:Nat} (hd:D.dead=false) (hj:j<l.length) (h:(runW K D (l.take j)).dead=false):runW K D (l.take (j+1))=wrF (runW K D (l.take j)) K (l.getD j default).1 (l.getD j default).2:=by
  rw [take_snoc (d:=default) hj,runW_app K _ _ _ hd,h,if_neg (by decide),runW];split
  · rfl
  · rfl
theorem runW_stop {D:Dk} {K:Fl} {l:List (Nat × Str)} {j:Nat} (hd:D.dead=false) (h:(runW K D (l.take j)).dead=true):runW K D l=runW K D (l.take j):=by
  conv=>lhs;rw [← List.take_append_drop j l]
  rw [runW_app K _ _ _ hd,if_pos h]
theorem chk_len (D:Dk) (p:Pt) (at':Nat) (s:Str):(chk D p at' s).length=nck D p at' s:=by unfold chk;rw [List.length_map,List.length_range]
theorem chk_get {D:Dk} {p:Pt} {at':Nat} {s:Str} {j:Nat} (h:j<nck D p at' s):(chk D p at' s).getD j default=(stN D.pl.length p.half+at' / 64+j,ckS (allS D p at' s) j):=by
  unfold chk;rw [List.getD_eq_getElem?_getD,List.getElem?_map,List.getElem?_range h];rfl
theorem commit_f (n0 bl b:Nat) (D:Dk) (K:Fl) (q p:Pt) (at':Nat) (s:Str) (w:World) (h:DiskF n0 w b D K) (hl:LogB n0 w bl b q false) (ha:D.armed≤9223372036854775807) (hd:D.dead=false) (hn:n0≤w.heap.size)
    (h6:6≤D.pl.length) (hp:PtOk p) (hh:p.half≤1) (hr:at'+s.length≤roomN D.pl.length) (hf:D.ca=[]∧D.ops<900000000):
    Ret Tryz.prog 79 #[.pointer (some ⟨bl,0,none⟩),.agg (ptV p).toArray,.int .i64 (at':Nat),S s] w fun v w'=>v=.int .i64 (if (comF D K (chk D p at' s) (p.ep % 2) (hdrS p)).dead then 190 else 0)∧(∃ K2,DiskF n0 w' b (comF D K (chk D p at' s) (p.ep % 2) (hdrS p)) K2)∧LogB n0 w' bl b (if (comF D K (chk D p at' s) (p.ep % 2) (hdrS p)).dead then q else p) (comF D K (chk D p at' s) (p.ep % 2) (hdrS p)).dead∧Dg lgTy n0 w w':=by
  have hst:=stN_le h6 hh;have hok:=h.2.1;have hsm:=hok.small;have hal:=allS_len hok (s:=s) h6 hh (at':=at') om_;have hrN:roomN D.pl.length=hlf D.pl.length * 64:=rfl;have hbl:=hl.1;have hb:=hl.2;have hnc:nck D p at' s≤2200:=by
    unfold nck;have:hlf D.pl.length≤2047:=by unfold hlf;omega
    split <;> omega
  have hcl:=chk_len D p at' s;refine ret_of_W Tryz.func79 rfl (Nat.le_of_ble_eq_true rfl) (res1 rfl) ?_;have hG:=Dg.refl lgTy n0 w;have hB:=Gr.refl (fun _=>False) w;refine W.seq (W.region (L.box (cs:=ptV p) rfl rfl (fun w5 bx5 hw hz5=>?_)));have hG:=hG.carry hw;have h:=h.carry hw;have hb:=hb.carry hw;have hnB:=bx5.lt;refine L.val (x_as (v:=.int _ _) rfl) rfl ?_;refine L.nil (thn_n (W.seq (W.region (L.val (x_mv (v:=S _) rfl) rfl ?_))));refine L.val (x_as (v:=S _) rfl) rfl ?_;refine L.nil (thn_n (W.cut (fun D' E' w'=>D'=[]∧E' 0=.pointer (some ⟨bl,0,none⟩)∧E' 2=.int .i64 (at':Nat)∧E' 3=S s∧E' 5=.pointer (some ⟨w.heap.size,0,none⟩)∧E' 9=S (allS D p at' s)∧DiskF n0 w' b D K∧Box w' bl 134 (logV q b false)∧Box w' w.heap.size 132 (ptV p)∧Dg lgTy n0 w w') ?_ ?_))
  ·refine W.seq (W.region (L.val (x_mv (v:=.int _ _) rfl) rfl ?_));refine L.val (x_rem rfl rfl om_ (by decide) rfl) rfl ?_;refine L.val (x_neq rfl rfl) rfl ?_;refine L.nil (thn_n (W.cond (b:=_) rfl (fun g18=>?_) (fun g18=>?_)))
   ·have h18:=dne_t g18;have hne:¬ at' % 64=0:=by omega
    refine W.seq (W.drawF 20 kwaf2_mixed (fun wF20 hB0=>?_));refine LAC.takeN (i:=0) rfl kr_ kr_ kr_ kr_ (fun w hw=>x_mv (v:=.pointer _) rfl) rfl ?_;refine LAC.takeN (i:=1) rfl kr_ kr_ kr_ kr_ (fun w hw=>x_nil rfl) rfl ?_;refine LAC.takeN (i:=2) rfl kr_ kr_ kr_ kr_ (fun w hw=>x_fa kwaf2_fo134_1 rfl) rfl ?_;refine LAC.takeN (i:=3) rfl kr_ kr_ kr_ kr_ (fun w hw=>x_ld (v:=.pointer _) kwaf2_oc35 rfl (hw.keep (hb.cell0 rfl))) rfl ?_;refine LAC.takeN (i:=4) rfl kr_ kr_ kr_ kr_ (fun w hw=>x_mv (v:=.pointer _) rfl) rfl ?_;refine LAC.takeN (i:=5) rfl kr_ kr_ kr_ kr_ (fun w hw=>x_nil rfl) rfl ?_;refine LAC.takeN (i:=6) rfl kr_ kr_ kr_ kr_ (fun w hw=>x_fa kwaf2_fo134_1 rfl) rfl ?_;refine LAC.takeN (i:=7) rfl kr_ kr_ kr_ kr_ (fun w hw=>x_ld (v:=.pointer _) kwaf2_oc35 rfl (hw.keep (hb.cell0 rfl))) rfl ?_;refine LAC.takeN (i:=8) rfl kr_ kr_ kr_ kr_ (fun w hw=>x_fa kwaf2_fo132_1 rfl) rfl ?_;refine LAC.takeN (i:=9) rfl kr_ kr_ kr_ kr_ (fun w hw=>x_ld (v:=.int _ _) kwaf2_oc3 rfl (hw.keep (bx5.cell0 rfl))) rfl ?_;refine LAC.takeN (i:=11) rfl kr_ kr_ kr_ kr_ (fun w hw=>x_mv (v:=.int _ _) rfl) rfl ?_;refine LAC.takeN (i:=12) rfl kr_ kr_ kr_ kr_ (fun w hw=>x_quo rfl rfl (by decide) (wq64 om_ (by decide))) rfl ?_;refine LAC.step (rs:=[10]) (fun _=>hB0) kr_ (by simp) ⟨⟨_,rfl,?_⟩,trivial⟩;refine L.ret (x_call kwaf2_en88 rfl) rfl (start_w n0 b D p.half _ ((h.bel hB0)).at h6 hh) ?_;rintro _ w30 ⟨rfl,hq30⟩;rw [hq30];refine L.nil (thn_n (LAC.takeN (i:=13) rfl kr_ kr_ kr_ kr_ (fun w hw=>x_add rfl rfl (wr64 om_)) rfl ?_));refine LAC.step (rs:=[14]) (fun _=>hB0) kr_ (by simp) ⟨⟨_,rfl,?_⟩,trivial⟩;refine L.ret (x_call kwaf2_en85 rfl) rfl (read_d n0 b D (stN D.pl.length p.half+at' / 64) _ ((h.bel hB0)).at hd om_) ?_;rintro _ w34 ⟨rfl,hw⟩;have hB0:=hB0.carry hw;refine L.nil (thn_n (LAC.takeN (i:=15) rfl kr_ kr_ kr_ kr_ (fun w hw=>x_mv (v:=_) rfl) rfl ?_));refine LAC.takeN (i:=16) rfl kr_ kr_ kr_ kr_ (fun w hw=>x_ext (v:=S _) rfl rfl) rfl ?_;refine LAC.takeN (i:=17) rfl kr_ kr_ kr_ kr_ (fun w hw=>x_ext (v:=.int _ _) rfl rfl) rfl ?_;refine LAC.takeN (i:=18) rfl kr_ kr_ kr_ kr_ (fun w hw=>x_as (v:=S _) rfl) rfl ?_;refine LAC.takeN (i:=19) rfl kr_ kr_ kr_ kr_ (fun w hw=>x_as (v:=.int _ _) rfl) rfl ?_;refine LAC.doneF kr_ hB0 ?_;have hG:=hG.carry hB0;have h:=h.carry hB0;have hb:=hb.carry hB0;have bx5:=bx5.carry hB0;refine thn_n (W.region (L.val (x_mv (v:=S _) rfl) rfl ?_));refine L.val (x_mv (v:=.int _ _) rfl) rfl ?_;refine L.val (x_rem rfl rfl om_ (by decide) rfl) rfl ?_;refine L.val (x_slS (j:=at' % 64) Tryz.underlying9 rfl rfl om_ (by rw [rdD_len hok om_];omega)) rfl ?_;refine L.val (x_mv (v:=S _) rfl) rfl ?_;refine L.val (x_cat rfl rfl (by simp;omega)) rfl ?_;refine L.val (x_as (v:=S _) rfl) rfl ?_;refine L.nil (thn_n ?_);first | exact ⟨rfl,rfl,rfl,rfl,rfl,by unfold allS;rw [if_neg hne];rfl,h,hb,bx5,hG⟩ | exact ⟨rfl,rfl,rfl,rfl,rfl,by unfold allS;rw [if_pos hne];rfl,h,hb,bx5,hG⟩
   ·have h18:=dne_f g18;have hne:at' % 64=0:=by omega
    refine W.skip (thn_n ?_);first | exact ⟨rfl,rfl,rfl,rfl,rfl,by unfold allS;rw [if_neg hne];rfl,h,hb,bx5,hG⟩ | exact ⟨rfl,rfl,rfl,rfl,rfl,by unfold allS;rw [if_pos hne];rfl,h,hb,bx5,hG⟩
  ·rintro D' E w43 ⟨rfl,e0,e2,e3,e5,e9,h,hb,bx5,hG⟩;rw [upd_self e0,upd_self e2,upd_self e3,upd_self e5,upd_self e9];refine W.cut (fun D' E' w'=>D'=[]∧E' 0=.pointer (some ⟨bl,0,none⟩)∧E' 5=.pointer (some ⟨w.heap.size,0,none⟩)∧DiskF n0 w' b (runW K D (chk D p at' s)) K∧(runW K D (chk D p at' s)).dead=false∧Box w' bl 134 (logV q b false)∧Box w' w.heap.size 132 (ptV p)∧Dg lgTy n0 w w') ?_ ?_
   ·refine W.seq (W.region (L.val (x_mv (v:=.int _ _) rfl) rfl ?_));refine L.val (x_quo rfl rfl (by decide) (wq64 om_ (by decide))) rfl ?_;refine L.val (x_as (v:=.int _ _) rfl) rfl ?_;refine L.nil (thn_n (W.block (W.loop (fun m' E w'=>∃ (j:Nat),m'=(allS D p at' s).length+64 - 64 * j∧E 0=.pointer (some ⟨bl,0,none⟩)∧E 3=S s∧E 5=.pointer (some ⟨w.heap.size,0,none⟩)∧E 9=S ((allS D p at' s).drop (64 * j))∧E 12=.int .i64 (at' / 64+j:Nat)∧(j=0∨64 * j<(allS D p at' s).length∧s≠[])∧(DiskF n0 w' b (runW K D ((chk D p at' s).take j)) K)∧((runW K D ((chk D p at' s).take j)).dead=false)∧(Box w' bl 134 (logV q b false))∧(Box w' w.heap.size 132 (ptV p))∧(Dg lgTy n0 w w')) ((allS D p at' s).length+64) ?_ ?_)))
    ·exact ⟨0,by omega,vi_,vi_,vi_,vi_,vi_,ao_,ao_,(by exact hd),ao_,ao_,ao_⟩
    ·rintro _ E wL45 ⟨j,em,e0,e3,e5,e9,e12,hj,h,hdj,hb,bx5,hG⟩;rw [upd_self e0,upd_self e3,upd_self e5,upd_self e9,upd_self e12];refine W.seq (W.seq (W.region (L.val (x_mv (v:=S _) rfl) rfl ?_)));refine L.val (x_nes rfl rfl) rfl ?_;refine L.val (x_mv (v:=.bool _) rfl) rfl ?_;refine L.splitat (dj:=47) (b:=_) rfl (fun g47=>?_) (fun g47=>?_)
     ·have h47:=sne_t g47;refine L.gyes' (dj:=47) (b:=_) rfl rfl g47 ?_;refine L.val (x_mv (v:=S _) rfl) rfl ?_;refine L.gyes' (dj:=47) (b:=_) rfl rfl g47 ?_;refine L.val (x_nes rfl rfl) rfl ?_;refine L.val (x_pick_t (v:=.bool _) (congrArg Value.bool g47) rfl) rfl ?_;refine L.nil (thn_n (W.cond (b:=_) rfl (fun g49=>?_) (fun g49=>?_)))
      ·have h49:=sne_t g49;have hlj:64 * j<(allS D p at' s).length:=by
         rcases Nat.lt_or_ge (64 * j) (allS D p at' s).length with h | h
         · exact h
         · exact absurd (List.drop_of_length_le h) h47
       have hld:((allS D p at' s).drop (64 * j)).length=(allS D p at' s).length - 64 * j:=List.length_drop;have eT:((allS D p at' s).drop (64 * j)).take (min ((allS D p at' s).drop (64 * j)).length 64)=((allS D p at' s).drop (64 * j)).take 64:=by
         rw [Nat.min_comm,← List.take_take,List.take_length]
       have eDr:((allS D p at' s).drop (64 * j)).drop (min ((allS D p at' s).drop (64 * j)).length 64)=(allS D p at' s).drop (64 * (j+1)):=by
         rw [List.drop_drop];rcases Nat.lt_or_ge (64 * (j+1)) (allS D p at' s).length with h | h
         · rw [show 64 * j+min ((allS D p at' s).drop (64 * j)).length 64=64 * (j+1) by omega]
         · rw [List.drop_of_length_le h,List.drop_of_length_le om_]
       have hjn:j≤2200:=by
         have:hlf D.pl.length≤2047:=by unfold hlf;omega
         omega
       have hjl:j<nck D p at' s:=by unfold nck;rw [if_neg h49];omega
       have hDj:=runW_alive hd hdj;have hpj:(runW K D ((chk D p at' s).take j)).pl.length=D.pl.length:=by rw [hDj]
       have hcj:(runW K D ((chk D p at' s).take j)).ca.length≤2200:=by rw [hDj];dsimp only;rw [hf.1,List.nil_append,List.length_take,hcl];omega
       have hoj:(runW K D ((chk D p at' s).take j)).ops≤D.ops+2200:=by rw [hDj];dsimp only;rw [List.length_take,hcl];omega
       have haj:(runW K D ((chk D p at' s).take j)).armed≤9223372036854775807:=by rw [hDj];dsimp only;omega
       have hnx:runW K D ((chk D p at' s).take (j+1))=wrF (runW K D ((chk D p at' s).take j)) K (stN D.pl.length p.half+at' / 64+j) (ckS (allS D p at' s) j):=by
         have:=runW_next (l:=chk D p at' s) (j:=j) hd (by rw [hcl];exact hjl) hdj;rw [chk_get hjl] at this;exact this
       have hdx:(runW K D ((chk D p at' s).take (j+1))).dead=decide ((runW K D ((chk D p at' s).take j)).armed=1):=by rw [hnx,wrF_dead hdj]
       clear hDj;refine W.skip (thn_n (W.seq (W.block (W.seq (W.region (L.val (x_mv (v:=S _) rfl) rfl ?_))))));refine L.val (x_len_str Tryz.underlying9 rfl) rfl ?_;refine L.val (x_min rfl rfl) rfl ?_;refine L.val (x_as (v:=.int _ _) rfl) rfl ?_;refine L.nil (thn_n (W.seq (W.seq (W.drawD (fun _=>True) (fun _=>False) 14 kwaf2_mixed (fun wD56 hw=>?_)))));have hG:=hG.carry hw;have h:=h.carry hw;have hb:=hb.carry hw;have bx5:=bx5.carry hw;have hB0:=Gr.refl (fun _=>False) wD56;have hR0:=Gr.refl (fun _=>True) wD56;refine LAD.take0 (i:=0) rfl kr_ kr_ kr_ kr_ (fun w hw=>x_mv (v:=.pointer _) rfl) rfl ?_;refine LAD.take0 (i:=1) rfl kr_ kr_ kr_ kr_ (fun w hw=>x_mv (v:=.pointer _) rfl) rfl ?_;refine LAD.take0 (i:=2) rfl kr_ kr_ kr_ kr_ (fun w hw=>x_nil rfl) rfl ?_;refine LAD.take0 (i:=3) rfl kr_ kr_ kr_ kr_ (fun w hw=>x_fa kwaf2_fo134_1 rfl) rfl ?_;refine LAD.takeP [9,7,4] (i:=4) rfl kr_ kr_ kr_ kr_ kr_ kr_ (fun w hw=>x_ld (v:=.pointer _) kwaf2_oc35 rfl (hw.keepR (fun e=>e) (hb.cell0 rfl))) rfl ?_;refine LAD.take0 (i:=5) rfl kr_ kr_ kr_ kr_ (fun w hw=>x_fa kwaf2_fo132_1 rfl) rfl ?_;refine LAD.takeP [9,7,6] (i:=6) rfl kr_ kr_ kr_ kr_ kr_ kr_ (fun w hw=>x_ld (v:=.int _ _) kwaf2_oc3 rfl (hw.keepR (fun e=>e) (bx5.cell0 rfl))) rfl ?_;refine LAD.take0 (i:=8) rfl kr_ kr_ kr_ kr_ (fun w hw=>x_mv (v:=.int _ _) rfl) rfl ?_;refine LAD.take0 (i:=10) rfl kr_ kr_ kr_ kr_ (fun w hw=>x_mv (v:=S _) rfl) rfl ?_;refine LAD.take0 (i:=11) rfl kr_ kr_ kr_ kr_ (fun w hw=>x_mv (v:=.int _ _) rfl) rfl ?_;refine LAD.take0 (i:=12) rfl kr_ kr_ kr_ kr_ (fun w hw=>x_slS (j:=min ((allS D p at' s).drop (64 * j)).length 64) Tryz.underlying9 rfl rfl om_ om_) rfl ?_;rw [eT];refine LAD.step (rs:=[7]) hR0 (fun _=>hB0) kr_ (by simp) ⟨⟨_,rfl,?_⟩,trivial⟩;refine L.ret (x_call kwaf2_en88 rfl) rfl (start_w n0 b _ p.half _ (h.bel hB0).at (by rw [hpj];exact h6) hh) ?_;rintro _ w63 ⟨rfl,hq63⟩;rw [hq63,hpj];refine L.nil (thn_n (LAD.take0 (i:=9) rfl kr_ kr_ kr_ kr_ (fun w hw=>x_add rfl rfl (wr64 om_)) rfl ?_));rw [show ((stN D.pl.length p.half:Nat):Int)+((at' / 64+j:Nat):Int)=((stN D.pl.length p.half+at' / 64+j:Nat):Int) by omega];refine LAD.step (rs:=[13]) hR0 (fun _=>hB0) kr_ (by simp) ⟨⟨_,rfl,?_⟩,trivial⟩;refine L.ret (x_call kwaf2_en87 rfl) rfl (padded_ok _ (by rw [List.length_take];omega) _) ?_;rintro _ w69 ⟨rfl,hw⟩;have hB0:=hB0.carry hw;have hR0:=hR0.carry hw;have hb:=hb.carry hw;have bx5:=bx5.carry hw;refine L.nil (thn_n (LAD.step (rs:=[14]) hR0 (fun _=>hB0) kr_ (by simp) ⟨⟨_,rfl,?_⟩,trivial⟩));refine L.ret (x_call kwaf2_en107 rfl) rfl (write_lf n0 bl b _ K q (stN D.pl.length p.half+at' / 64+j) (ckS (allS D p at' s) j) _ (h.bel hB0) ⟨hbl,hb⟩ haj hdj (by rw [hpj];omega) (ckS_len _ _) (Nat.le_trans hn (hG.carry hB0).size) om_) ?_;rintro _ w70 ⟨rfl,h70,hl70,hg70⟩;have hR0:=hR0.trans (Gr.mono hg70 (fun _ _ _=>trivial));have hG70:=(hG.carry hB0).trans hg70;have hb:=hl70.2;have bx5:=bx5.dg hg70 rfl;rw [← hnx] at h70;refine L.nil (thn_n (LAD.take0 (i:=15) rfl kr_ kr_ kr_ kr_ (fun w hw=>x_not rfl) rfl ?_));refine LAD.done kr_ kr_ hR0 ?_;have hG:=hG70;have h:=h70;refine thn_n (W.cond (b:=_) rfl (fun g71=>?_) (fun g71=>?_))
       ·have h71:=(not_t g71);have ha1:(runW K D ((chk D p at' s).take j)).armed=1:=by simpa using g71
        have hX:(runW K D ((chk D p at' s).take (j+1))).dead=true:=by rw [hdx,decide_eq_true ha1]
        have hR:comF D K (chk D p at' s) (p.ep % 2) (hdrS p)=runW K D ((chk D p at' s).take (j+1)):=(comF_1 (by rw [runW_stop hd hX];exact hX)).trans (runW_stop hd hX);rw [decide_eq_true ha1] at hb;refine W.seq (W.region (L.val (x_as (v:=.int _ _) rfl) rfl ?_));refine L.nil (thn_n (W.ret (thn_r (blk_r (thn_r (thn_r (blk_r (thn_r (fin_mk (.inr rfl) ?_)))))))));rw [hR,hX];exact ⟨rfl,⟨_,h⟩,⟨hbl,hb⟩,hG⟩
       ·have h71:=(not_f g71);have ha1:¬ (runW K D ((chk D p at' s).take j)).armed=1:=by simpa using g71
        have hdj2:(runW K D ((chk D p at' s).take (j+1))).dead=false:=by rw [hdx,decide_eq_false ha1]
        rw [decide_eq_false ha1] at hb;rw [Kn_alive ha1] at h;refine W.skip (thn_n (W.seq (W.region (L.val (x_mv (v:=S _) rfl) rfl ?_))));refine L.val (x_mv (v:=.int _ _) rfl) rfl ?_;refine L.val (x_slB (j:=min ((allS D p at' s).drop (64 * j)).length 64) Tryz.underlying9 rfl rfl om_ om_) rfl ?_;rw [eDr];refine L.val (x_as (v:=S _) rfl) rfl ?_;refine L.nil (thn_n (W.seq (W.region (L.val (x_mv (v:=S _) rfl) rfl ?_))));refine L.val (x_eqs rfl rfl) rfl ?_;refine L.nil (thn_n (W.cond (b:=_) rfl (fun g76=>?_) (fun g76=>?_)))
        ·have h76:=seq_t g76;have hz:(allS D p at' s).length≤64 * (j+1):=by have:=congrArg List.length h76;simp only [List.length_drop,List.length_nil] at this;omega
         have hfin:j+1=nck D p at' s:=by
           unfold nck;rw [if_neg h49];omega
         have htk:(chk D p at' s).take (j+1)=chk D p at' s:=List.take_of_length_le (by rw [hcl,hfin];exact Nat.le_refl _);refine W.exit (blk_miss rfl (thn_x (thn_x (blk_hit ?_))));refine thn_n ?_;first | exact ⟨rfl,rfl,rfl,by rw [← htk];exact h,by rw [← htk];exact hdj,hb,bx5,hG⟩ | exact ⟨rfl,rfl,rfl,by rw [← htk];exact h,by rw [← htk];exact hdj2,hb,bx5,hG⟩
        ·have h76:=seq_f g76;have hlt2:64 * (j+1)<(allS D p at' s).length:=by
           rcases Nat.lt_or_ge (64 * (j+1)) (allS D p at' s).length with h | h
           · exact h
           · exact absurd (List.drop_of_length_le h) h76
         refine W.skip (blk_n (thn_n (W.region (L.val (x_mv (v:=.int _ _) rfl) rfl ?_))));refine L.val (x_add rfl rfl (wr64 om_)) rfl ?_;refine L.val (x_as (v:=.int _ _) rfl) rfl ?_;refine L.nil (thn_n ⟨rfl,?_⟩);refine ⟨_,?_,j+1,rfl,vi_,vi_,vi_,vi_,vi_,(by exact .inr ⟨by omega,h49⟩),ao_,(by exact hdj2),ao_,ao_,ao_⟩;omega
      ·have h49:=sne_f g49;have hfin:j=nck D p at' s:=by
         unfold nck;rcases hj with rfl | hj
         · rw [if_pos h49]
         · exact absurd h49 hj.2
       have htk:(chk D p at' s).take j=chk D p at' s:=List.take_of_length_le (by rw [hcl,hfin];exact Nat.le_refl _);refine W.exit (thn_x (thn_x (blk_hit ?_)));refine thn_n ?_;first | exact ⟨rfl,rfl,rfl,by rw [← htk];exact h,by rw [← htk];exact hdj,hb,bx5,hG⟩ | exact ⟨rfl,rfl,rfl,by rw [← htk];exact h,by rw [← htk];exact hdj2,hb,bx5,hG⟩
     ·have h47:=sne_f g47;have hz:(allS D p at' s).length≤64 * j:=by have:=congrArg List.length h47;simp only [List.length_drop,List.length_nil] at this;omega
      have hfin:j=nck D p at' s:=by
        unfold nck;rcases hj with rfl | hj
        · rw [if_pos (List.eq_nil_of_length_eq_zero om_)]
        · rw [if_neg hj.2];omega
      have htk:(chk D p at' s).take j=chk D p at' s:=List.take_of_length_le (by rw [hcl,hfin];exact Nat.le_refl _);refine L.gno (dj:=47) (b:=_) rfl rfl g47 rfl ?_;refine L.gno (dj:=47) (b:=_) rfl rfl g47 rfl ?_;refine L.val (x_pick_f (v:=.bool _) (congrArg Value.bool g47) rfl) rfl ?_;refine L.nil (thn_n (W.cond (b:=false) rfl (fun h=>nomatch h) (fun _=>?_)));refine W.exit (thn_x (thn_x (blk_hit ?_)));refine thn_n ?_;first | exact ⟨rfl,rfl,rfl,by rw [← htk];exact h,by rw [← htk];exact hdj,hb,bx5,hG⟩ | exact ⟨rfl,rfl,rfl,by rw [← htk];exact h,by rw [← htk];exact hdj2,hb,bx5,hG⟩
   ·rintro D' E w77 ⟨rfl,e0,e5,h,hAd,hb,bx5,hG⟩;rw [upd_self e0,upd_self e5];have hA:=runW_alive hd hAd;have hAp:(runW K D (chk D p at' s)).pl.length=D.pl.length:=by rw [hA]
    have hAc:(runW K D (chk D p at' s)).ca.length≤2200:=by rw [hA];dsimp only;rw [hf.1,List.nil_append,hcl];exact hnc
    have hAo:(runW K D (chk D p at' s)).ops≤D.ops+2200:=by rw [hA];dsimp only;rw [hcl];omega
    have hAa:(runW K D (chk D p at' s)).armed≤9223372036854775807:=by rw [hA];dsimp only;omega
    rw [comF_tail hAd];clear hA;generalize runW K D (chk D p at' s)=A at *;refine W.seq (W.region (L.val (x_fa kwaf2_fo132_0 rfl) rfl ?_));refine L.val (x_ld (v:=.int _ _) kwaf2_oc80 rfl (bx5.cell0 rfl)) rfl ?_;refine L.val (x_rem (c:=((p.ep % 2:Nat):Int)) rfl rfl om_ (by decide) om_) rfl ?_;refine L.val (x_conv (k':=.i64) (by rw [Tryz.underlying80];rfl) Tryz.underlying3 rfl (wr64 om_)) rfl ?_;refine L.val (x_as (v:=.int _ _) rfl) rfl ?_;refine L.nil (thn_n (W.seq (W.seq (W.region (L.val (x_mv (v:=.pointer _) rfl) rfl ?_)))));refine L.val (x_mv (v:=.int _ _) rfl) rfl ?_;refine L.ret (x_call kwaf2_en87 rfl) rfl (padded_ok [] (by decide) _) ?_;rintro _ w83 ⟨rfl,hw⟩;have hG:=hG.carry hw;have h:=h.carry hw;have hb:=hb.carry hw;have bx5:=bx5.carry hw;refine L.ret (x_call kwaf2_en107 rfl) rfl (write_lf n0 bl b A K q (p.ep % 2) (zeros 64) _ h ⟨hbl,hb⟩ hAa hAd (by rw [hAp];omega) (zeros_len _) (Nat.le_trans hn hG.size) om_) ?_;rintro _ w84 ⟨rfl,h84,hl84,hg84⟩;have h:=h84;have hb:=hl84.2;have bx5:=bx5.dg hg84 rfl;have hG:=hG.trans hg84;obtain ⟨B,hBe⟩:∃ B,wrF A K (p.ep % 2) (zeros 64)=B:=⟨_,rfl⟩;have hBd:B.dead=decide (A.armed=1):=by rw [← hBe,wrF_dead hAd]
    rw [hBe] at h;refine L.val (x_not rfl) rfl ?_;refine L.val (x_mv (v:=.bool _) rfl) rfl ?_;refine L.splitat (dj:=86) (b:=_) rfl (fun g86=>?_) (fun g86=>?_)
    ·have h86:=(not_t g86);have ha1:A.armed=1:=by simpa using g86
     rw [decide_eq_true ha1] at hBd hb;have hR:=comG_2 (hd:=hdrS p) hBe hBd;have hX:=hBd;(iterate 3 refine L.gno (dj:=86) (b:=_) rfl rfl g86 rfl ?_);refine L.val (x_pick_t (v:=.bool _) (congrArg Value.bool g86) rfl) rfl ?_;refine L.val (x_mv (v:=.bool _) rfl) rfl ?_;(iterate 6 refine L.gno (dj:=91) (b:=_) rfl rfl rfl rfl ?_);refine L.val (x_pick_t (v:=.bool _) rfl rfl) rfl ?_;refine L.val (x_mv (v:=.bool _) rfl) rfl ?_;(iterate 3 refine L.gno (dj:=99) (b:=_) rfl rfl rfl rfl ?_);refine L.val (x_pick_t (v:=.bool _) rfl rfl) rfl ?_;refine L.nil (thn_n (W.cond (b:=true) rfl (fun _=>?_) (fun h=>nomatch h)));refine W.seq (W.region (L.val (x_as (v:=.int _ _) rfl) rfl ?_));refine L.nil (thn_n (W.ret (thn_r (fin_mk (.inr rfl) ?_))));rw [hR,hX];exact ⟨rfl,⟨_,h⟩,⟨hbl,hb⟩,hG⟩
    ·have h86:=(not_f g86);have ha1:¬ A.armed=1:=by simpa using g86
     rw [decide_eq_false ha1] at hBd hb;rw [Kn_alive ha1] at h;have hBx:=hBe.symm.trans (wrF_alive ha1);have hBp:B.pl.length=D.pl.length:=by rw [hBx];exact hAp
     have hBo:B.ops≤D.ops+2201:=by rw [hBx];show A.ops+1≤_;omega
     have hBa:B.armed≤9223372036854775807:=by rw [hBx];show A.armed - 1≤_;omega
     clear hBx;refine L.gyes' (dj:=86) (b:=_) rfl rfl g86 ?_;refine L.val (x_mv (v:=.pointer _) rfl) rfl ?_;refine L.gyes' (dj:=86) (b:=_) rfl rfl g86 ?_;refine L.ret (x_call kwaf2_en108 rfl) rfl (flush_lf n0 bl b B K q _ h ⟨hbl,hb⟩ hBa hBd (Nat.le_trans hn hG.size) om_) ?_;rintro _ w88 ⟨rfl,h88,hl88,hg88⟩;have h:=h88;have hb:=hl88.2;have bx5:=bx5.dg hg88 rfl;have hG:=hG.trans hg88;obtain ⟨C,hCe⟩:∃ C,flF B K=C:=⟨_,rfl⟩;have hCd:C.dead=decide (B.armed=1):=by rw [← hCe,flF_dead hBd]
     rw [hCe] at h;refine L.gyes' (dj:=86) (b:=_) rfl rfl g86 ?_;refine L.val (x_not rfl) rfl ?_;refine L.val (x_pick_f (v:=.bool _) (congrArg Value.bool g86) rfl) rfl ?_;refine L.val (x_mv (v:=.bool _) rfl) rfl ?_;refine L.splitat (dj:=91) (b:=_) rfl (fun g91=>?_) (fun g91=>?_)
     ·have h91:=(not_t g91);have ha1:B.armed=1:=by simpa using g91
      rw [decide_eq_true ha1] at hCd hb;have hR:=comG_3 (hd:=hdrS p) hBe hBd hCe hCd;have hX:=hCd;(iterate 6 refine L.gno (dj:=91) (b:=_) rfl rfl g91 rfl ?_);refine L.val (x_pick_t (v:=.bool _) (congrArg Value.bool g91) rfl) rfl ?_;refine L.val (x_mv (v:=.bool _) rfl) rfl ?_;(iterate 3 refine L.gno (dj:=99) (b:=_) rfl rfl rfl rfl ?_);refine L.val (x_pick_t (v:=.bool _) rfl rfl) rfl ?_;refine L.nil (thn_n (W.cond (b:=true) rfl (fun _=>?_) (fun h=>nomatch h)));refine W.seq (W.region (L.val (x_as (v:=.int _ _) rfl) rfl ?_));refine L.nil (thn_n (W.ret (thn_r (fin_mk (.inr rfl) ?_))));rw [hR,hX];exact ⟨rfl,⟨_,h⟩,⟨hbl,hb⟩,hG⟩
     ·have h91:=(not_f g91);have ha1:¬ B.armed=1:=by simpa using g91
      rw [decide_eq_false ha1] at hCd hb;rw [Kn_alive ha1] at h;have hCx:=hCe.symm.trans (flF_alive ha1);have hCp:C.pl.length=D.pl.length:=by rw [hCx];show (apD B.pl B.ca).length=_;rw [apD_len];exact hBp
      have hCc:C.ca.length=0:=by rw [hCx];rfl
      have hCo:C.ops≤D.ops+2202:=by rw [hCx];show B.ops+1≤_;omega
      have hCa:C.armed≤9223372036854775807:=by rw [hCx];show B.armed - 1≤_;omega
      clear hCx;refine L.gyes' (dj:=91) (b:=_) rfl rfl g91 ?_;refine L.val (x_mv (v:=.pointer _) rfl) rfl ?_;refine L.gyes' (dj:=91) (b:=_) rfl rfl g91 ?_;refine L.val (x_mv (v:=.int _ _) rfl) rfl ?_;refine L.gyes' (dj:=91) (b:=_) rfl rfl g91 ?_;refine L.val (x_ldn (vs:=_) kwaf2_ag132 rfl rfl (bx5.row rfl)) rfl ?_;refine L.gyes' (dj:=91) (b:=_) rfl rfl g91 ?_;refine L.ret (x_call kwaf2_en109 rfl) rfl (header_ok p hp _) ?_;rintro _ w95 ⟨rfl,hw⟩;have hG:=hG.carry hw;have h:=h.carry hw;have hb:=hb.carry hw;have bx5:=bx5.carry hw;refine L.gyes' (dj:=91) (b:=_) rfl rfl g91 ?_;refine L.ret (x_call kwaf2_en107 rfl) rfl (write_lf n0 bl b C K q (p.ep % 2) (hdrS p) _ h ⟨hbl,hb⟩ hCa hCd (by rw [hCp];omega) (hdrS_len _) (Nat.le_trans hn hG.size) om_) ?_;rintro _ w96 ⟨rfl,h96,hl96,hg96⟩;have h:=h96;have hb:=hl96.2;have bx5:=bx5.dg hg96 rfl;have hG:=hG.trans hg96;obtain ⟨E',hEe⟩:∃ E',wrF C K (p.ep % 2) (hdrS p)=E':=⟨_,rfl⟩;have hEd:E'.dead=decide (C.armed=1):=by rw [← hEe,wrF_dead hCd]
      rw [hEe] at h;refine L.gyes' (dj:=91) (b:=_) rfl rfl g91 ?_;refine L.val (x_not rfl) rfl ?_;refine L.val (x_pick_f (v:=.bool _) (congrArg Value.bool g91) rfl) rfl ?_;refine L.val (x_mv (v:=.bool _) rfl) rfl ?_;refine L.splitat (dj:=99) (b:=_) rfl (fun g99=>?_) (fun g99=>?_)
      ·have h99:=(not_t g99);have ha1:C.armed=1:=by simpa using g99
       rw [decide_eq_true ha1] at hEd hb;have hR:=comG_4 hBe hBd hCe hCd hEe hEd;have hX:=hEd;(iterate 3 refine L.gno (dj:=99) (b:=_) rfl rfl g99 rfl ?_);refine L.val (x_pick_t (v:=.bool _) (congrArg Value.bool g99) rfl) rfl ?_;refine L.nil (thn_n (W.cond (b:=true) rfl (fun _=>?_) (fun h=>nomatch h)));refine W.seq (W.region (L.val (x_as (v:=.int _ _) rfl) rfl ?_));refine L.nil (thn_n (W.ret (thn_r (fin_mk (.inr rfl) ?_))));rw [hR,hX];exact ⟨rfl,⟨_,h⟩,⟨hbl,hb⟩,hG⟩
      ·have h99:=(not_f g99);have ha1:¬ C.armed=1:=by simpa using g99
       rw [decide_eq_false ha1] at hEd hb;rw [Kn_alive ha1] at h;have hEx:=hEe.symm.trans (wrF_alive ha1);have hEo:E'.ops≤D.ops+2203:=by rw [hEx];show C.ops+1≤_;omega
       have hEa:E'.armed≤9223372036854775807:=by rw [hEx];show C.armed - 1≤_;omega
       clear hEx;refine L.gyes' (dj:=99) (b:=_) rfl rfl g99 ?_;refine L.val (x_mv (v:=.pointer _) rfl) rfl ?_;refine L.gyes' (dj:=99) (b:=_) rfl rfl g99 ?_;refine L.ret (x_call kwaf2_en108 rfl) rfl (flush_lf n0 bl b E' K q _ h ⟨hbl,hb⟩ hEa hEd (Nat.le_trans hn hG.size) om_) ?_;rintro _ w101 ⟨rfl,h101,hl101,hg101⟩;have h:=h101;have hb:=hl101.2;have bx5:=bx5.dg hg101 rfl;have hG:=hG.trans hg101;have hR:=comG_5 hBe hBd hCe hCd hEe hEd;refine L.gyes' (dj:=99) (b:=_) rfl rfl g99 ?_;refine L.val (x_not rfl) rfl ?_;refine L.val (x_pick_f (v:=.bool _) (congrArg Value.bool g99) rfl) rfl ?_;refine L.nil (thn_n (W.cond (b:=_) rfl (fun g102=>?_) (fun g102=>?_)))
       ·have h102:=(not_t g102);have ha1:E'.armed=1:=by simpa using g102
        have hX:(flF E' K).dead=true:=by rw [flF_dead hEd,decide_eq_true ha1]
        rw [decide_eq_true ha1] at hb;refine W.seq (W.region (L.val (x_as (v:=.int _ _) rfl) rfl ?_));refine L.nil (thn_n (W.ret (thn_r (fin_mk (.inr rfl) ?_))));rw [hR,hX];exact ⟨rfl,⟨_,h⟩,⟨hbl,hb⟩,hG⟩
       ·have h102:=(not_f g102);have ha1:¬ E'.armed=1:=by simpa using g102
        have hX:(flF E' K).dead=false:=by rw [flF_dead hEd,decide_eq_false ha1]
        rw [decide_eq_false ha1] at hb;refine W.skip (thn_n (W.seq (W.region (L.val (x_mv (v:=.pointer _) rfl) rfl ?_))));refine L.val (x_ldn (vs:=_) kwaf2_ag132 rfl rfl (bx5.row rfl)) rfl ?_;refine L.val (x_nil rfl) rfl ?_;refine L.val (x_fa kwaf2_fo134_0 rfl) rfl ?_;have hlo:LogB n0 _ bl b q false:=⟨hbl,hb⟩;refine L.setPart (o:=0) (k:=4) (new:=ptV p) kwaf2_ag132 rfl rfl hb (by show 4≤6;omega) rfl (ptV_one p) (fun wl107 hb hw hzl107=>?_);have h:=h.log hlo.2 hlo.1 hw;have hG:=hG.trans (Dg.logB hlo hw);refine L.nil (thn_n (W.seq (W.region (L.val (x_as (v:=.int _ _) rfl) rfl ?_))));refine L.nil (thn_n (W.ret (fin_mk (.inr rfl) ?_)));rw [hR,hX];exact ⟨rfl,⟨_,h⟩,⟨hbl,hb⟩,hG⟩
end Go.Gx
