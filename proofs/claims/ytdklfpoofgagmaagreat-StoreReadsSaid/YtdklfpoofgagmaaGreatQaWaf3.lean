/- A log's Append and Turn through a fall. Conditions: none. -/
import Derived.Test.YtdklfpoofgagmaaGreatQaWaf2
import Derived.Test.YtdklfpoofgagmaaGreatQaWal8
import Derived.Test.YtdklfpoofgagmaaGreatQaStoE
namespace Go.Gx
open Go.Proofs
theorem kwaf3_ag132:aggT Tryz.prog 132 4=true:=by kernel_rfl
theorem kwaf3_en75:Go.Proofs.Enters Tryz.prog 75:=Go.Proofs.enters_of Tryz.func75 kr_ rfl
theorem kwaf3_en76:Go.Proofs.Enters Tryz.prog 76:=Go.Proofs.enters_of Tryz.func76 kr_ rfl
theorem kwaf3_en77:Go.Proofs.Enters Tryz.prog 77:=Go.Proofs.enters_of Tryz.func77 kr_ rfl
theorem kwaf3_en78:Go.Proofs.Enters Tryz.prog 78:=Go.Proofs.enters_of Tryz.func78 kr_ rfl
theorem kwaf3_en79:Go.Proofs.Enters Tryz.prog 79:=Go.Proofs.enters_of Tryz.func79 kr_ rfl
theorem kwaf3_fo132_0:fieldOff Tryz.prog 132 0=some 0:=by kernel_rfl
theorem kwaf3_fo132_1:fieldOff Tryz.prog 132 1=some 1:=by kernel_rfl
theorem kwaf3_fo132_2:fieldOff Tryz.prog 132 2=some 2:=by kernel_rfl
theorem kwaf3_fo132_3:fieldOff Tryz.prog 132 3=some 3:=by kernel_rfl
theorem kwaf3_fo134_0:fieldOff Tryz.prog 134 0=some 0:=by kernel_rfl
theorem kwaf3_fo134_1:fieldOff Tryz.prog 134 1=some 4:=by kernel_rfl
theorem kwaf3_mixed:Tryz.prog.follows .mixedOrders=true:=by kernel_rfl
theorem kwaf3_oc3:oneCellT Tryz.prog 3=true:=by kernel_rfl
theorem kwaf3_oc35:oneCellT Tryz.prog 35=true:=by kernel_rfl
theorem kwaf3_oc80:oneCellT Tryz.prog 80=true:=by kernel_rfl
theorem kwaf3_si132:structInfo Tryz.prog 132=some ([(0,1),(1,1),(2,1),(3,1)],[Value.int .u64 0,Value.int .i64 0,Value.int .i64 0,Value.int .i64 0]):=by kernel_rfl
def outF (D:Dk) (K:Fl) (q p:Pt) (at':Nat) (s:Str):Int × Dk × Pt:=
  (if (comF D K (chk D p at' s) (p.ep % 2) (hdrS p)).dead then 190 else 0,comF D K (chk D p at' s) (p.ep % 2) (hdrS p),if (comF D K (chk D p at' s) (p.ep % 2) (hdrS p)).dead then q else p)
def appF (D:Dk) (K:Fl) (q:Pt) (l:List Str):Int × Dk × Pt:=
  if (makeS l).2=0∧l≠[] then (if roomN D.pl.length<q.tail+(makeS l).1.length then (210,D,q) else outF D K q (appP q l) q.tail (makeS l).1) else ((makeS l).2,D,q)
def turnF (D:Dk) (K:Fl) (q:Pt) (l:List Str):Int × Dk × Pt:=
  if (makeS l).2=0 then (if roomN D.pl.length<(makeS l).1.length then (210,D,q) else outF D K q (turnP q l) 0 (makeS l).1) else ((makeS l).2,D,q)
theorem append_f (n0 bl b:Nat) (A:Nat→Prop) (v:Value) (l:List Str) (D:Dk) (K:Fl) (q:Pt) (w:World) (h:DiskF n0 w b D K) (hl:LogB n0 w bl b q false) (hq:QOk (una D) q) (har:D.armed≤9223372036854775807) (hs:StrsAt A w v l) (hn:n0≤w.heap.size) (hne:need l≤10000000):
    Ret Tryz.prog 41 #[.pointer (some ⟨bl,0,none⟩),v] w fun v w'=>v=.int .i64 (appF D K q l).1∧(∃ K2,DiskF n0 w' b (appF D K q l).2.1 K2)∧LogB n0 w' bl b (appF D K q l).2.2 (appF D K q l).2.1.dead∧Dg lgTy n0 w w':=by
  obtain ⟨p1,c1,rfl,-⟩:=id hs;have hlen:=makeS_le l;have hln:=len_need l;obtain ⟨h6,ha,hd,hca,hop,hhf,htl,hep,hcn⟩:=hq;have h6:6≤D.pl.length:=h6;have hd:D.dead=false:=hd;have hca:D.ca=[]:=hca;have hop:D.ops<900000000:=hop;have htl:q.tail≤roomN D.pl.length:=htl;have hsm:=h.2.1.small;have hrm:=roomN_le hsm;have hbl:=hl.1;have hb:=hl.2;refine ret_of_W Tryz.func41 rfl (Nat.le_of_ble_eq_true rfl) (res1 rfl) ?_;have hG:=Dg.refl lgTy n0 w;refine W.seq (W.region (L.val (x_as (v:=.int _ _) rfl) rfl ?_));refine L.nil (thn_n (W.seq (W.seq (W.region (L.val (x_mv (v:=.pointer _) rfl) rfl ?_)))));refine L.ret (x_call kwaf3_en75 rfl) rfl (alive_w n0 bl b D q _ h.at ⟨hl.1,hl.2⟩ hd) ?_;rintro _ w9 ⟨rfl,hq9⟩;rw [hq9];refine L.val (x_as (v:=.int _ _) rfl) rfl ?_;refine L.nil (thn_n (W.seq (W.region (L.val (x_mv (v:=.int _ _) rfl) rfl ?_))));refine L.val (x_neq rfl rfl) rfl ?_;refine L.nil (thn_n (W.cond (b:=_) rfl (fun g11=>?_) (fun g11=>?_)))
  ·have h11:=dne_t g11;cases g11
  ·have h11:=dne_f g11;refine W.skip (thn_n (W.seq (W.region (L.val (x_mv (v:=.slice _ _ _) rfl) rfl ?_))));refine L.ret (x_call kwaf3_en76 rfl) rfl (make_ok A _ l _ hs hne) ?_;rintro _ w15 ⟨rfl,hw⟩;have hG:=hG.carry hw;have h:=h.carry hw;have hb:=hb.carry hw;refine L.val (x_mv (v:=_) rfl) rfl ?_;refine L.val (x_ext (v:=S _) rfl rfl) rfl ?_;refine L.val (x_ext (v:=.int _ _) rfl rfl) rfl ?_;refine L.val (x_as (v:=S _) rfl) rfl ?_;refine L.val (x_as (v:=.int _ _) rfl) rfl ?_;refine L.nil (thn_n (W.seq (W.seq (W.region (L.val (x_mv (v:=.int _ _) rfl) rfl ?_)))));refine L.val (x_neq rfl rfl) rfl ?_;refine L.val (x_mv (v:=.bool _) rfl) rfl ?_;refine L.splitat (dj:=20) (b:=_) rfl (fun g20=>?_) (fun g20=>?_)
   ·have h20:=dne_t g20;have hmk:¬ ((makeS l).2=0∧l≠[]):=fun e=>h20 e.1
    (iterate 3 refine L.gno (dj:=20) (b:=_) rfl rfl g20 rfl ?_);refine L.val (x_pick_t (v:=.bool _) (congrArg Value.bool g20) rfl) rfl ?_;refine L.nil (thn_n (W.cond (b:=true) rfl (fun _=>?_) (fun h=>nomatch h)));refine W.seq (W.region (L.val (x_mv (v:=.int _ _) rfl) rfl ?_));refine L.val (x_as (v:=.int _ _) rfl) rfl ?_;refine L.nil (thn_n (W.ret (thn_r (fin_mk (.inr rfl) ?_))));unfold appF;rw [if_neg hmk];exact ⟨rfl,⟨K,h⟩,⟨hbl,(show (D.dead=false) from hd) ▸ hb⟩,hG⟩
   ·have h20:=dne_f g20;have hmk0:(makeS l).2=0:=h20;refine L.gyes' (dj:=20) (b:=_) rfl rfl g20 ?_;refine L.val (x_mv (v:=.slice _ _ _) rfl) rfl ?_;refine L.gyes' (dj:=20) (b:=_) rfl rfl g20 ?_;refine L.val (x_len_slice Tryz.underlying22 rfl) rfl ?_;refine L.gyes' (dj:=20) (b:=_) rfl rfl g20 ?_;refine L.val (x_eql rfl rfl) rfl ?_;refine L.val (x_pick_f (v:=.bool _) (congrArg Value.bool g20) rfl) rfl ?_;refine L.nil (thn_n (W.cond (b:=_) rfl (fun g23=>?_) (fun g23=>?_)))
    ·have h23:=of_decide_eq_true g23;have hl0:l=[]:=List.eq_nil_of_length_eq_zero om_;have hmk:¬ ((makeS l).2=0∧l≠[]):=fun e=>e.2 hl0
     refine W.seq (W.region (L.val (x_mv (v:=.int _ _) rfl) rfl ?_));refine L.val (x_as (v:=.int _ _) rfl) rfl ?_;refine L.nil (thn_n (W.ret (thn_r (fin_mk (.inr rfl) ?_))));unfold appF;rw [if_neg hmk];exact ⟨rfl,⟨K,h⟩,⟨hbl,(show (D.dead=false) from hd) ▸ hb⟩,hG⟩
    ·have h23:=of_decide_eq_false g23;have hmk:(makeS l).2=0∧l≠[]:=⟨hmk0,fun e=>by subst e;exact h23 rfl⟩;refine W.skip (thn_n (W.seq (W.seq (W.drawF 13 kwaf3_mixed (fun wF26 hB0=>?_)))));refine LAC.takeN (i:=0) rfl kr_ kr_ kr_ kr_ (fun w hw=>x_mv (v:=S _) rfl) rfl ?_;refine LAC.takeN (i:=1) rfl kr_ kr_ kr_ kr_ (fun w hw=>x_len_str Tryz.underlying9 rfl) rfl ?_;refine LAC.takeN (i:=2) rfl kr_ kr_ kr_ kr_ (fun w hw=>x_mv (v:=.pointer _) rfl) rfl ?_;refine LAC.takeN (i:=3) rfl kr_ kr_ kr_ kr_ (fun w hw=>x_nil rfl) rfl ?_;refine LAC.takeN (i:=4) rfl kr_ kr_ kr_ kr_ (fun w hw=>x_fa kwaf3_fo134_0 rfl) rfl ?_;refine LAC.takeN (i:=5) rfl kr_ kr_ kr_ kr_ (fun w hw=>x_ldn (vs:=ptV q) kwaf3_ag132 rfl rfl (hw.keepRow rfl (log_pt hb))) rfl ?_;refine LAC.takeN (i:=6) rfl kr_ kr_ kr_ kr_ (fun w hw=>x_mv (v:=.pointer _) rfl) rfl ?_;refine LAC.takeN (i:=7) rfl kr_ kr_ kr_ kr_ (fun w hw=>x_nil rfl) rfl ?_;refine LAC.takeN (i:=8) rfl kr_ kr_ kr_ kr_ (fun w hw=>x_fa kwaf3_fo134_1 rfl) rfl ?_;refine LAC.takeN (i:=9) rfl kr_ kr_ kr_ kr_ (fun w hw=>x_ld (v:=.pointer _) kwaf3_oc35 rfl (hw.keep (hb.cell0 rfl))) rfl ?_;refine LAC.step (rs:=[10]) (fun _=>hB0) kr_ (by simp) ⟨⟨_,rfl,?_⟩,trivial⟩;refine L.ret (x_call kwaf3_en78 rfl) rfl (room_w n0 b D _ (h.bel hB0).at h6) ?_;rintro _ w36 ⟨rfl,hq36⟩;rw [hq36];refine L.nil (thn_n (LAC.step (rs:=[11]) (fun _=>hB0) kr_ (by simp) ⟨⟨_,rfl,?_⟩,trivial⟩));refine L.ret (x_call kwaf3_en77 rfl) rfl (left_ok q _ ⟨hrm,by omega⟩ _) ?_;rintro _ w37 ⟨rfl,hw⟩;have hB0:=hB0.carry hw;refine L.nil (thn_n (LAC.takeN (i:=12) rfl kr_ kr_ kr_ kr_ (fun w hw=>x_gtr rfl rfl) rfl ?_));refine LAC.doneF kr_ hB0 ?_;have hG:=hG.carry hB0;have h:=h.carry hB0;have hb:=hb.carry hB0;refine thn_n (W.cond (b:=_) rfl (fun g38=>?_) (fun g38=>?_))
     ·have h38:=of_decide_eq_true g38;have hbig:roomN D.pl.length<q.tail+(makeS l).1.length:=by omega
      refine W.seq (W.region (L.val (x_as (v:=.int _ _) rfl) rfl ?_));refine L.nil (thn_n (W.ret (thn_r (fin_mk (.inr rfl) ?_))));unfold appF;rw [if_pos hmk,if_pos hbig];exact ⟨rfl,⟨K,h⟩,⟨hbl,(show (D.dead=false) from hd) ▸ hb⟩,hG⟩
     ·have h38:=dlt_f g38;have hbig:¬ roomN D.pl.length<q.tail+(makeS l).1.length:=by omega
      refine W.skip (thn_n (W.seq (W.drawD (fun _=>True) (fun _=>False) 35 kwaf3_mixed (fun wD39 hw=>?_))));have hG:=hG.carry hw;have h:=h.carry hw;have hb:=hb.carry hw;have hB0:=Gr.refl (fun _=>False) wD39;have hR0:=Gr.refl (fun _=>True) wD39;refine LAD.take0 (i:=0) rfl kr_ kr_ kr_ kr_ (fun w hw=>x_mv (v:=.pointer _) rfl) rfl ?_;refine LAD.take0 (i:=1) rfl kr_ kr_ kr_ kr_ (fun w hw=>x_mv (v:=.pointer _) rfl) rfl ?_;refine LAD.take0 (i:=2) rfl kr_ kr_ kr_ kr_ (fun w hw=>x_nil rfl) rfl ?_;refine LAD.take0 (i:=3) rfl kr_ kr_ kr_ kr_ (fun w hw=>x_fa kwaf3_fo134_0 rfl) rfl ?_;refine LAD.take0 (i:=4) rfl kr_ kr_ kr_ kr_ (fun w hw=>x_fa kwaf3_fo132_0 rfl) rfl ?_;refine LAD.takeP [28,6,5] (i:=5) rfl kr_ kr_ kr_ kr_ kr_ kr_ (fun w hw=>x_ld (v:=.int _ _) kwaf3_oc80 rfl (hw.keepR (fun e=>e) (hb.cell0 rfl))) rfl ?_;refine LAD.take0 (i:=6) rfl kr_ kr_ kr_ kr_ (fun w hw=>x_add rfl rfl (wru64 om_)) rfl ?_;refine LAD.take0 (i:=7) rfl kr_ kr_ kr_ kr_ (fun w hw=>x_mv (v:=.pointer _) rfl) rfl ?_;refine LAD.take0 (i:=8) rfl kr_ kr_ kr_ kr_ (fun w hw=>x_nil rfl) rfl ?_;refine LAD.take0 (i:=9) rfl kr_ kr_ kr_ kr_ (fun w hw=>x_fa kwaf3_fo134_0 rfl) rfl ?_;refine LAD.take0 (i:=10) rfl kr_ kr_ kr_ kr_ (fun w hw=>x_fa kwaf3_fo132_1 rfl) rfl ?_;refine LAD.takeP [28,11] (i:=11) rfl kr_ kr_ kr_ kr_ kr_ kr_ (fun w hw=>x_ld (v:=.int _ _) kwaf3_oc3 rfl (hw.keepR (fun e=>e) (hb.cell0 rfl))) rfl ?_;refine LAD.take0 (i:=12) rfl kr_ kr_ kr_ kr_ (fun w hw=>x_mv (v:=.pointer _) rfl) rfl ?_;refine LAD.take0 (i:=13) rfl kr_ kr_ kr_ kr_ (fun w hw=>x_nil rfl) rfl ?_;refine LAD.take0 (i:=14) rfl kr_ kr_ kr_ kr_ (fun w hw=>x_fa kwaf3_fo134_0 rfl) rfl ?_;refine LAD.take0 (i:=15) rfl kr_ kr_ kr_ kr_ (fun w hw=>x_fa kwaf3_fo132_2 rfl) rfl ?_;refine LAD.takeP [28,19,16] (i:=16) rfl kr_ kr_ kr_ kr_ kr_ kr_ (fun w hw=>x_ld (v:=.int _ _) kwaf3_oc3 rfl (hw.keepR (fun e=>e) (hb.cell0 rfl))) rfl ?_;refine LAD.take0 (i:=17) rfl kr_ kr_ kr_ kr_ (fun w hw=>x_mv (v:=S _) rfl) rfl ?_;refine LAD.take0 (i:=18) rfl kr_ kr_ kr_ kr_ (fun w hw=>x_len_str Tryz.underlying9 rfl) rfl ?_;refine LAD.take0 (i:=19) rfl kr_ kr_ kr_ kr_ (fun w hw=>x_add rfl rfl (wr64 om_)) rfl ?_;refine LAD.take0 (i:=20) rfl kr_ kr_ kr_ kr_ (fun w hw=>x_mv (v:=.pointer _) rfl) rfl ?_;refine LAD.take0 (i:=21) rfl kr_ kr_ kr_ kr_ (fun w hw=>x_nil rfl) rfl ?_;refine LAD.take0 (i:=22) rfl kr_ kr_ kr_ kr_ (fun w hw=>x_fa kwaf3_fo134_0 rfl) rfl ?_;refine LAD.take0 (i:=23) rfl kr_ kr_ kr_ kr_ (fun w hw=>x_fa kwaf3_fo132_3 rfl) rfl ?_;refine LAD.takeP [28,27,24] (i:=24) rfl kr_ kr_ kr_ kr_ kr_ kr_ (fun w hw=>x_ld (v:=.int _ _) kwaf3_oc3 rfl (hw.keepR (fun e=>e) (hb.cell0 rfl))) rfl ?_;refine LAD.take0 (i:=25) rfl kr_ kr_ kr_ kr_ (fun w hw=>x_mv (v:=.slice _ _ _) rfl) rfl ?_;refine LAD.take0 (i:=26) rfl kr_ kr_ kr_ kr_ (fun w hw=>x_len_slice Tryz.underlying22 rfl) rfl ?_;refine LAD.take0 (i:=27) rfl kr_ kr_ kr_ kr_ (fun w hw=>x_add rfl rfl (wr64 om_)) rfl ?_;refine LAD.take0 (i:=28) rfl kr_ kr_ kr_ kr_ (fun w hw=>x_build (cells:=[.int _ _,.int _ _,.int _ _,.int _ _]) kwaf3_si132 rfl rfl) rfl ?_;refine LAD.take0 (i:=29) rfl kr_ kr_ kr_ kr_ (fun w hw=>x_mv (v:=.pointer _) rfl) rfl ?_;refine LAD.take0 (i:=30) rfl kr_ kr_ kr_ kr_ (fun w hw=>x_nil rfl) rfl ?_;refine LAD.take0 (i:=31) rfl kr_ kr_ kr_ kr_ (fun w hw=>x_fa kwaf3_fo134_0 rfl) rfl ?_;refine LAD.take0 (i:=32) rfl kr_ kr_ kr_ kr_ (fun w hw=>x_fa kwaf3_fo132_2 rfl) rfl ?_;refine LAD.take1 (i:=33) rfl kr_ kr_ kr_ kr_ kr_ kr_ (fun w hw=>x_ld (v:=.int _ _) kwaf3_oc3 rfl (hw.keepR (fun e=>e) (hb.cell0 rfl))) rfl ?_;refine LAD.take0 (i:=34) rfl kr_ kr_ kr_ kr_ (fun w hw=>x_mv (v:=S _) rfl) rfl ?_;refine LAD.step (rs:=[35]) hR0 (fun _=>hB0) kr_ (by simp) ⟨⟨_,rfl,?_⟩,trivial⟩;refine L.ret (x_call kwaf3_en79 rfl) rfl (commit_f n0 bl b D K q (appP q l) q.tail (makeS l).1 _ (h.bel hB0) ⟨hbl,hb⟩ har hd (Nat.le_trans hn (hG.carry hB0).size) h6 ⟨by show q.ep+1<_;omega,by show q.half<_;omega,by show q.tail+_<_;omega,by show q.cnt+_<_;omega⟩ hhf om_ ⟨hca,hop⟩) ?_;rintro _ w74 ⟨rfl,h74,hl74,hg74⟩;have hR0:=hR0.trans (Gr.mono hg74 (fun _ _ _=>trivial));have hG74:=(hG.carry hB0).trans hg74;have hbL:=hl74;have hb:True:=trivial;refine L.nil (thn_n (LAD.take0 (i:=36) rfl kr_ kr_ kr_ kr_ (fun w hw=>x_as (v:=.int _ _) rfl) rfl ?_));refine LAD.done kr_ kr_ hR0 ?_;have hG:=hG74;have h:=h74;refine thn_n (W.ret (fin_mk (.inr rfl) ?_));unfold appF;rw [if_pos hmk,if_neg hbig];exact ⟨rfl,h,hbL,hG⟩
theorem turn_f (n0 bl b:Nat) (A:Nat→Prop) (v:Value) (l:List Str) (D:Dk) (K:Fl) (q:Pt) (w:World) (h:DiskF n0 w b D K) (hl:LogB n0 w bl b q false) (hq:QOk (una D) q) (har:D.armed≤9223372036854775807) (hs:StrsAt A w v l) (hn:n0≤w.heap.size) (hne:need l≤10000000):
    Ret Tryz.prog 45 #[.pointer (some ⟨bl,0,none⟩),v] w fun v w'=>v=.int .i64 (turnF D K q l).1∧(∃ K2,DiskF n0 w' b (turnF D K q l).2.1 K2)∧LogB n0 w' bl b (turnF D K q l).2.2 (turnF D K q l).2.1.dead∧Dg lgTy n0 w w':=by
  obtain ⟨p1,c1,rfl,-⟩:=id hs;have hlen:=makeS_le l;have hln:=len_need l;obtain ⟨h6,ha,hd,hca,hop,hhf,htl,hep,hcn⟩:=hq;have h6:6≤D.pl.length:=h6;have hd:D.dead=false:=hd;have hca:D.ca=[]:=hca;have hop:D.ops<900000000:=hop;have htl:q.tail≤roomN D.pl.length:=htl;have hsm:=h.2.1.small;have hrm:=roomN_le hsm;have hbl:=hl.1;have hb:=hl.2;refine ret_of_W Tryz.func45 rfl (Nat.le_of_ble_eq_true rfl) (res1 rfl) ?_;have hG:=Dg.refl lgTy n0 w;refine W.seq (W.region (L.val (x_as (v:=.int _ _) rfl) rfl ?_));refine L.nil (thn_n (W.seq (W.seq (W.region (L.val (x_mv (v:=.pointer _) rfl) rfl ?_)))));refine L.ret (x_call kwaf3_en75 rfl) rfl (alive_w n0 bl b D q _ h.at ⟨hl.1,hl.2⟩ hd) ?_;rintro _ w9 ⟨rfl,hq9⟩;rw [hq9];refine L.val (x_as (v:=.int _ _) rfl) rfl ?_;refine L.nil (thn_n (W.seq (W.region (L.val (x_mv (v:=.int _ _) rfl) rfl ?_))));refine L.val (x_neq rfl rfl) rfl ?_;refine L.nil (thn_n (W.cond (b:=_) rfl (fun g11=>?_) (fun g11=>?_)))
  ·have h11:=dne_t g11;cases g11
  ·have h11:=dne_f g11;refine W.skip (thn_n (W.seq (W.region (L.val (x_mv (v:=.slice _ _ _) rfl) rfl ?_))));refine L.ret (x_call kwaf3_en76 rfl) rfl (make_ok A _ l _ hs hne) ?_;rintro _ w15 ⟨rfl,hw⟩;have hG:=hG.carry hw;have h:=h.carry hw;have hb:=hb.carry hw;refine L.val (x_mv (v:=_) rfl) rfl ?_;refine L.val (x_ext (v:=S _) rfl rfl) rfl ?_;refine L.val (x_ext (v:=.int _ _) rfl rfl) rfl ?_;refine L.val (x_as (v:=S _) rfl) rfl ?_;refine L.val (x_as (v:=.int _ _) rfl) rfl ?_;refine L.nil (thn_n (W.seq (W.seq (W.region (L.val (x_mv (v:=.int _ _) rfl) rfl ?_)))));refine L.val (x_neq rfl rfl) rfl ?_;refine L.nil (thn_n (W.cond (b:=_) rfl (fun g19=>?_) (fun g19=>?_)))
   ·have h19:=dne_t g19;have hmk:¬ ((makeS l).2=0):=h19;refine W.seq (W.region (L.val (x_mv (v:=.int _ _) rfl) rfl ?_));refine L.val (x_as (v:=.int _ _) rfl) rfl ?_;refine L.nil (thn_n (W.ret (thn_r (fin_mk (.inr rfl) ?_))));unfold turnF;rw [if_neg hmk];exact ⟨rfl,⟨K,h⟩,⟨hbl,(show (D.dead=false) from hd) ▸ hb⟩,hG⟩
   ·have h19:=dne_f g19;have hmk:(makeS l).2=0:=h19;refine W.skip (thn_n (W.seq (W.seq (W.region (L.val (x_mv (v:=S _) rfl) rfl ?_)))));refine L.val (x_len_str Tryz.underlying9 rfl) rfl ?_;refine L.val (x_mv (v:=.pointer _) rfl) rfl ?_;refine L.val (x_nil rfl) rfl ?_;refine L.val (x_fa kwaf3_fo134_1 rfl) rfl ?_;refine L.val (x_ld (v:=.pointer _) kwaf3_oc35 rfl (hb.cell0 rfl)) rfl ?_;refine L.ret (x_call kwaf3_en78 rfl) rfl (room_w n0 b D _ h.at h6) ?_;rintro _ w27 ⟨rfl,hq27⟩;rw [hq27];refine L.val (x_gtr rfl rfl) rfl ?_;refine L.nil (thn_n (W.cond (b:=_) rfl (fun g28=>?_) (fun g28=>?_)))
    ·have h28:=of_decide_eq_true g28;have hbig:roomN D.pl.length<(makeS l).1.length:=by omega
     refine W.seq (W.region (L.val (x_as (v:=.int _ _) rfl) rfl ?_));refine L.nil (thn_n (W.ret (thn_r (fin_mk (.inr rfl) ?_))));unfold turnF;rw [if_pos hmk,if_pos hbig];exact ⟨rfl,⟨K,h⟩,⟨hbl,(show (D.dead=false) from hd) ▸ hb⟩,hG⟩
    ·have h28:=dlt_f g28;have hbig:¬ roomN D.pl.length<(makeS l).1.length:=by omega
     refine W.skip (thn_n (W.seq (W.drawD (fun _=>True) (fun _=>False) 19 kwaf3_mixed (fun wD29 hw=>?_))));have hG:=hG.carry hw;have h:=h.carry hw;have hb:=hb.carry hw;have hB0:=Gr.refl (fun _=>False) wD29;have hR0:=Gr.refl (fun _=>True) wD29;refine LAD.take0 (i:=0) rfl kr_ kr_ kr_ kr_ (fun w hw=>x_mv (v:=.pointer _) rfl) rfl ?_;refine LAD.take0 (i:=1) rfl kr_ kr_ kr_ kr_ (fun w hw=>x_mv (v:=.pointer _) rfl) rfl ?_;refine LAD.take0 (i:=2) rfl kr_ kr_ kr_ kr_ (fun w hw=>x_nil rfl) rfl ?_;refine LAD.take0 (i:=3) rfl kr_ kr_ kr_ kr_ (fun w hw=>x_fa kwaf3_fo134_0 rfl) rfl ?_;refine LAD.take0 (i:=4) rfl kr_ kr_ kr_ kr_ (fun w hw=>x_fa kwaf3_fo132_0 rfl) rfl ?_;refine LAD.takeP [17,6,5] (i:=5) rfl kr_ kr_ kr_ kr_ kr_ kr_ (fun w hw=>x_ld (v:=.int _ _) kwaf3_oc80 rfl (hw.keepR (fun e=>e) (hb.cell0 rfl))) rfl ?_;refine LAD.take0 (i:=6) rfl kr_ kr_ kr_ kr_ (fun w hw=>x_add rfl rfl (wru64 om_)) rfl ?_;refine LAD.take0 (i:=7) rfl kr_ kr_ kr_ kr_ (fun w hw=>x_mv (v:=.pointer _) rfl) rfl ?_;refine LAD.take0 (i:=8) rfl kr_ kr_ kr_ kr_ (fun w hw=>x_nil rfl) rfl ?_;refine LAD.take0 (i:=9) rfl kr_ kr_ kr_ kr_ (fun w hw=>x_fa kwaf3_fo134_0 rfl) rfl ?_;refine LAD.take0 (i:=10) rfl kr_ kr_ kr_ kr_ (fun w hw=>x_fa kwaf3_fo132_1 rfl) rfl ?_;refine LAD.takeP [17,12,11] (i:=11) rfl kr_ kr_ kr_ kr_ kr_ kr_ (fun w hw=>x_ld (v:=.int _ _) kwaf3_oc3 rfl (hw.keepR (fun e=>e) (hb.cell0 rfl))) rfl ?_;refine LAD.take0 (i:=12) rfl kr_ kr_ kr_ kr_ (fun w hw=>x_sub rfl rfl (wr64 om_)) rfl ?_;rw [show (1:Int) - (q.half:Nat)=((1 - q.half:Nat):Int) by omega];refine LAD.take0 (i:=13) rfl kr_ kr_ kr_ kr_ (fun w hw=>x_mv (v:=S _) rfl) rfl ?_;refine LAD.take0 (i:=14) rfl kr_ kr_ kr_ kr_ (fun w hw=>x_len_str Tryz.underlying9 rfl) rfl ?_;refine LAD.take0 (i:=15) rfl kr_ kr_ kr_ kr_ (fun w hw=>x_mv (v:=.slice _ _ _) rfl) rfl ?_;refine LAD.take0 (i:=16) rfl kr_ kr_ kr_ kr_ (fun w hw=>x_len_slice Tryz.underlying22 rfl) rfl ?_;refine LAD.take0 (i:=17) rfl kr_ kr_ kr_ kr_ (fun w hw=>x_build (cells:=[.int _ _,.int _ _,.int _ _,.int _ _]) kwaf3_si132 rfl rfl) rfl ?_;refine LAD.take0 (i:=18) rfl kr_ kr_ kr_ kr_ (fun w hw=>x_mv (v:=S _) rfl) rfl ?_;refine LAD.step (rs:=[19]) hR0 (fun _=>hB0) kr_ (by simp) ⟨⟨_,rfl,?_⟩,trivial⟩;refine L.ret (x_call kwaf3_en79 rfl) rfl (commit_f n0 bl b D K q (turnP q l) 0 (makeS l).1 _ (h.bel hB0) ⟨hbl,hb⟩ har hd (Nat.le_trans hn (hG.carry hB0).size) h6 ⟨by show q.ep+1<_;omega,by show 1 - q.half<_;omega,by show _<_;dsimp only [turnP];omega,by dsimp only [turnP];omega⟩ (by show 1 - q.half≤1;omega) om_ ⟨hca,hop⟩) ?_;rintro _ w48 ⟨rfl,h48,hl48,hg48⟩;have hR0:=hR0.trans (Gr.mono hg48 (fun _ _ _=>trivial));have hG48:=(hG.carry hB0).trans hg48;have hbL:=hl48;have hb:True:=trivial;refine L.nil (thn_n (LAD.take0 (i:=20) rfl kr_ kr_ kr_ kr_ (fun w hw=>x_as (v:=.int _ _) rfl) rfl ?_));refine LAD.done kr_ kr_ hR0 ?_;have hG:=hG48;have h:=h48;refine thn_n (W.ret (fin_mk (.inr rfl) ?_));unfold turnF;rw [if_pos hmk,if_neg hbig];exact ⟨rfl,h,hbL,hG⟩
end Go.Gx
namespace Go.Gx
open Go.Proofs
theorem LogB.bel {n0 bl b:Nat} {w w':World} {p:Pt} {br:Bool} (h:LogB n0 w bl b p br) (g:Bel w w'):LogB n0 w' bl b p br:=⟨h.1,h.2.carry g⟩
theorem LogB.carry {n0 bl b:Nat} {w w':World} {p:Pt} {br:Bool} (h:LogB n0 w bl b p br) (g:Bel w w'):LogB n0 w' bl b p br:=h.bel g
def doesF (D:Dk) (K:Fl) (q:Pt) (a:Wc):Int × Dk × Pt:=if a.kind=0 then appF D K q a.bods else if a.kind=1 then turnF D K q a.bods else (0,D,q)
end Go.Gx
namespace Go.Gx
open Go.Proofs
theorem wrF_arm (D:Dk) (K:Fl) (i:Nat) (s:Str):(wrF D K i s).armed≤D.armed:=by
  unfold wrF;split
  · exact Nat.zero_le _
  · exact Nat.sub_le _ _
theorem flF_arm (D:Dk) (K:Fl):(flF D K).armed≤D.armed:=by
  unfold flF;split
  · exact Nat.zero_le _
  · exact Nat.sub_le _ _
theorem runW_arm (K:Fl):∀ (l:List (Nat × Str)) (D:Dk),(runW K D l).armed≤D.armed
  | [],_=>Nat.le_refl _
  | x :: r,D=>by
    rw [runW];split
    · exact wrF_arm D K _ _
    · exact Nat.le_trans (runW_arm K r _) (wrF_arm D K _ _)
theorem comF_arm (D:Dk) (K:Fl) (ws:List (Nat × Str)) (sl:Nat) (hd:Str):(comF D K ws sl hd).armed≤D.armed:=by
  have h1:=runW_arm K ws D;have h2:=wrF_arm (runW K D ws) K sl (zeros 64);have h3:=flF_arm (wrF (runW K D ws) K sl (zeros 64)) K;have h4:=wrF_arm (flF (wrF (runW K D ws) K sl (zeros 64)) K) K sl hd;have h5:=flF_arm (wrF (flF (wrF (runW K D ws) K sl (zeros 64)) K) K sl hd) K;unfold comF;dsimp only;split
  · exact h1
  · split
    · omega
    · split
      · omega
      · split <;> omega
structure Fin2 (D:Dk) (q:Pt) (all all':List Str) (r:Int × Dk × Pt):Prop where
  len:r.2.1.pl.length=D.pl.length
  ops:r.2.1.ops≤D.ops+2300
  arm:r.2.1.armed≤D.armed
  code:r.1=190↔r.2.1.dead=true
  live:r.2.1.dead=false→r.2.2.ep≤q.ep+1∧RepC (una r.2.1) r.2.2 (if r.1=0 then all' else all)
  dead:r.2.1.dead=true→r.2.1.armed=0∧∃ p,p.ep≤q.ep+1∧(RepC (bt r.2.1) p all∨RepC (bt r.2.1) p all')
theorem Fin2.same {D:Dk} {q:Pt} {all all':List Str} {e:Int} (hd:D.dead=false) (h:RepC (una D) q all) (h1:e≠190) (h2:e=0→all'=all):Fin2 D q all all' (e,D,q):=by
  refine ⟨rfl,Nat.le_add_right _ _,Nat.le_refl _,⟨fun e=>absurd e h1,fun e=>?_⟩,fun _=>⟨Nat.le_succ _,?_⟩,fun e=>?_⟩
  · have e:D.dead=true:=e;rw [hd] at e;cases e
  · dsimp only;split
    · rename_i e;rw [h2 e];exact h
    · exact h
  · have e:D.dead=true:=e;rw [hd] at e;cases e
theorem out_fin {D:Dk} {K:Fl} {q p:Pt} {all all':List Str} {at':Nat} {s:Str} (hd:D.dead=false) (h:RepC (una D) q all) (hok:DkOk D) (nx:Nx (una D) q p at' s all') (hokR:DkOk (outF D K q p at' s).2.1) (hep:p.ep<1000000000) (hcn:p.cnt<2000000000) (hops:D.ops+2300<900000000):Fin2 D q all all' (outF D K q p at' s):=by
  have harm:(outF D K q p at' s).2.1.armed≤D.armed:=comF_arm _ _ _ _ _;have hpe:=nx.ep;obtain ⟨R,hR⟩:∃ R,comF D K (chk (una D) p at' s) (p.ep % 2) (hdrS p)=R:=⟨_,rfl⟩;have eO:outF D K q p at' s=(if R.dead then 190 else 0,R,if R.dead then q else p):=by rw [← hR];rfl
  rw [eO] at hokR harm ⊢;obtain ⟨c1,c2,c3,c4,c5,c6⟩:=crash_com hd h hok nx hR hokR hep hcn hops;refine ⟨c1,c4,harm,?_,fun e=>?_,fun e=>?_⟩
  · dsimp only;cases hr:R.dead with
    | true=>simp
    | false=>simp
  · have e:R.dead=false:=e;dsimp only;rw [e];exact ⟨by show p.ep≤_;omega,c5 e⟩
  · obtain ⟨d1,d2⟩:=c6 e;refine ⟨d1,?_⟩;rcases d2 with d2 | d2
    · exact ⟨q,by omega,.inl d2⟩
    · exact ⟨p,by omega,.inr d2⟩
theorem makeS_err (l:List Str):(makeS l).2≠190:=by
  unfold makeS;split
  · show (3:Int)≠190;decide
  · show (0:Int)≠190;decide
theorem does_fin {D:Dk} {K:Fl} {q:Pt} {all:List Str} (a:Wc) (hd:D.dead=false) (h:RepC (una D) q all) (hok:DkOk D) (hokR:DkOk (doesF D K q a).2.1) (hep:q.ep+1<1000000000) (hcn:all.length+a.bods.length<2000000000) (hops:D.ops+2300<900000000):Fin2 D q all (goesA all a) (doesF D K q a):=by
  have hqc:q.cnt=all.length:=h.cnt;have hqh:=h.ok.half;unfold doesF at hokR ⊢;by_cases h1:a.kind=0
  · have eg:goesA all a=all++a.bods:=by unfold goesA;rw [if_pos h1]
    rw [if_pos h1] at hokR ⊢;rw [eg];unfold appF at hokR ⊢;split
    · rename_i h2
      rw [if_pos h2] at hokR;split
      · exact Fin2.same hd h (by decide) (fun e=>absurd e (by decide))
      · rename_i h3
        rw [if_neg h3] at hokR;obtain ⟨b1,b2⟩:=makeS_ok h2.1;have ha:(areaS (una D) (appP q a.bods) ((q.tail+63) / 64)).take q.tail=(all.map frm).flatten:=by
          rw [areaS_half (una D) (p:=appP q a.bods) (q:=q) rfl];exact h.area
        refine out_fin hd h hok ⟨rfl,hqh,by show q.tail+_≤roomN D.pl.length;omega,rfl,.inl ⟨rfl,rfl⟩,tooBig_app h.big b1,?_,?_⟩ hokR hep (by show q.cnt+a.bods.length<_;omega) hops
        · rw [ha,b2,List.map_append,List.flatten_append]
        · show q.cnt+a.bods.length=_;rw [hqc,List.length_append]
    · rename_i h2
      refine Fin2.same hd h (makeS_err _) fun e=>?_
      have:a.bods=[]:=Decidable.byContradiction fun e'=>h2 ⟨e,e'⟩
      rw [this,List.append_nil]
  · rw [if_neg h1] at hokR ⊢;by_cases h2:a.kind=1
    · have eg:goesA all a=a.bods:=by unfold goesA;rw [if_neg h1,if_pos h2]
      rw [if_pos h2] at hokR ⊢;rw [eg];unfold turnF at hokR ⊢;split
      · rename_i h3
        rw [if_pos h3] at hokR;split
        · exact Fin2.same hd h (by decide) (fun e=>absurd e (by decide))
        · rename_i h4
          rw [if_neg h4] at hokR;obtain ⟨b1,b2⟩:=makeS_ok h3;refine out_fin hd h hok ⟨rfl,by show 1 - q.half≤1;omega,by show 0+_≤roomN D.pl.length;omega,by show (makeS a.bods).1.length=0+_;omega,.inr ⟨by show 1 - q.half≠q.half;omega,rfl⟩,b1,?_,rfl⟩ hokR hep (by show a.bods.length<_;omega) hops;rw [List.take_zero,List.nil_append,b2]
      · rename_i h3
        exact Fin2.same hd h (makeS_err _) fun e=>absurd e h3
    · have eg:goesA all a=all:=by unfold goesA;rw [if_neg h1,if_neg h2]
      rw [if_neg h2] at hokR ⊢;rw [eg];exact Fin2.same hd h (by decide) fun _=>rfl
theorem una_open (D:Dk):openA (una D)=openA D:=rfl
end Go.Gx
namespace Go.Gx
open Go.Proofs Go.Sort
theorem kstof_en43:Go.Proofs.Enters Tryz.prog 43:=Go.Proofs.enters_of Tryz.func43 kr_ rfl
theorem kstof_en61:Go.Proofs.Enters Tryz.prog 61:=Go.Proofs.enters_of Tryz.func61 kr_ rfl
theorem kstof_en62:Go.Proofs.Enters Tryz.prog 62:=Go.Proofs.enters_of Tryz.func62 kr_ rfl
theorem kstof_fo100_0:fieldOff Tryz.prog 100 0=some 0:=by kernel_rfl
theorem kstof_oc9:oneCellT Tryz.prog 9=true:=by kernel_rfl
theorem kstof_si100:structInfo Tryz.prog 100=some ([(0,1),(1,1)],[Value.map none,Value.pointer none]):=by kernel_rfl
theorem kstof_sz9:(Tryz.prog.info? 9).map (·.size)=some 1:=by kernel_rfl
theorem allB_get {ls:List (List Ed)} {i:Nat} (h:i<ls.length):(allB ls).getD i []=bodyB (ls.getD i []):=by
  unfold allB;rw [List.getD_eq_getElem?_getD,List.getElem?_map,List.getD_eq_getElem?_getD,List.getElem?_eq_getElem h];rfl
theorem comes_take {ls:List (List Ed)} {i:Nat} (h:i<ls.length):comes [] (ls.take (i+1)).flatten=comes (comes [] (ls.take i).flatten) (ls.getD i []):=by
  rw [take_snoc (d:=[]) h,List.flatten_append,comes_append];simp
theorem big_get {l:List Str} (h:tooBig l=false) {i:Nat} (hi:i<l.length):(l.getD i []).length≤20000:=by
  unfold tooBig at h;have:=List.any_eq_false.1 h (l.getD i []) (by rw [List.getD_eq_getElem?_getD,List.getElem?_eq_getElem hi];exact List.getElem_mem hi);simpa using this
theorem open_s (n0 b:Nat) (D:Dk) (p:Pt) (ls:List (List Ed)) (w:World) (h:DiskAt n0 w b D) (hd:D.dead=false) (h6:6≤D.pl.length) (ho:openA D=(0,p,allB ls)) (hm:∀ l∈ls,mayL l=true) (hb:tooBig (allB ls)=false):
    Ret Tryz.prog 28 #[.pointer (some ⟨b,0,none⟩)] w fun v w'=>(∃ bs bl,v=.tuple #[.pointer (some ⟨bs,0,none⟩),.int .i64 0]∧StoAt w.heap.size w' bs bl (comes [] ls.flatten)∧LogB w.heap.size w' bl b p false)∧Bel w w':=by
  have hop:=open_w n0 b D w h hd h6;rw [ho] at hop;have hal:(allB ls).length=ls.length:=by unfold allB;rw [List.length_map]
  refine ret_of_W Tryz.func28 rfl (Nat.le_of_ble_eq_true rfl) (res2 rfl) ?_;have hB:=Gr.refl (fun _=>False) w;refine W.seq (W.region (L.val (x_as (v:=.pointer _) rfl) rfl ?_));refine L.val (x_as (v:=.int _ _) rfl) rfl ?_;refine L.nil (thn_n (W.seq (W.region (L.val (x_mv (v:=.pointer _) rfl) rfl ?_))));refine L.ret (x_call kstof_en61 rfl) rfl (hop) ?_;rintro v14 w14 ⟨hw,hr⟩;have hB:=hB.carry hw;obtain ⟨-,bl,u,rfl,hl,hu⟩:=hr.resolve_left (fun e=>e.1 rfl);have hl:LogB w.heap.size w14 bl b p false:=⟨hl.1,hl.2⟩;have hu:StrsAt _ w14 u (allB ls):=hu;have hu:=hu.new;obtain ⟨pu,cu,rfl,-,-,hln,-⟩:=id hu;rw [hal] at hu hln ⊢;have hz14:=hw.size;refine L.val (x_mv (v:=_) rfl) rfl ?_;refine L.val (x_ext (v:=.pointer _) rfl rfl) rfl ?_;refine L.val (x_ext (v:=.slice _ _ _) rfl rfl) rfl ?_;refine L.val (x_ext (v:=.int _ _) rfl rfl) rfl ?_;refine L.val (x_as (v:=.pointer _) rfl) rfl ?_;refine L.val (x_as (v:=.slice _ _ _) rfl) rfl ?_;refine L.val (x_as (v:=.int _ _) rfl) rfl ?_;refine L.nil (thn_n (W.seq (W.seq (W.region (L.val (x_mv (v:=.int _ _) rfl) rfl ?_)))));refine L.val (x_neq rfl rfl) rfl ?_;refine L.nil (thn_n (W.cond (b:=_) rfl (fun g19=>?_) (fun g19=>?_)))
  ·have h19:=dne_t g19;cases g19
  ·have h19:=dne_f g19;refine W.skip (thn_n (W.seq (W.region (L.val (x_mv (v:=.pointer _) rfl) rfl ?_))));refine L.val (x_build (cells:=[.map _,.pointer _]) kstof_si100 rfl rfl) rfl ?_;refine L.box (cs:=[.map none,.pointer (some ⟨bl,0,none⟩)]) rfl rfl (fun w23 bx23 hw hz23=>?_);have hB:=hB.carry hw;have hl:=hl.carry hw;have hu:=hu.carry hw;have hbs:=bx23.lt;have hz23':w14.heap.size<w23.heap.size:=hbs;refine L.val (x_as (v:=.pointer _) rfl) rfl ?_;refine L.nil (thn_n (W.seq (W.seq (W.region (L.val (x_mv (v:=.slice _ _ _) rfl) rfl ?_)))));refine L.val (x_len_slice Tryz.underlying22 rfl) rfl ?_;refine L.val (x_mv (v:=.int _ _) rfl) rfl ?_;refine L.nil (thn_n (W.block (W.loop (fun m' E w'=>∃ (i:Nat) (m:Option Nat),m'=ls.length - i∧E 7=.pointer (some ⟨w14.heap.size,0,none⟩)∧E 24=.slice pu ls.length cu∧E 25=.int .i64 (ls.length:Nat)∧E 26=.int .i64 (i:Nat)∧(i≤ls.length)∧(Bel w w')∧(LogB w.heap.size w' bl b p false)∧(StrsAt (fun k=>w14.heap.size≤k) w' (.slice pu ls.length cu) (allB ls))∧(Box w' w14.heap.size 100 [.map m,.pointer (some ⟨bl,0,none⟩)])∧(MapHas w23.heap.size w' m (comes [] (ls.take i).flatten))) (ls.length) ?_ ?_)))
   ·exact ⟨0,none,by omega,by first | rfl | exact vi om_ | exact vs (by first | assumption | (rw [hst];done) | (rw [hst];simp only [List.append_assoc])),by first | rfl | exact vi om_ | exact vs (by first | assumption | (rw [hst];done) | (rw [hst];simp only [List.append_assoc])),by first | rfl | exact vi om_ | exact vs (by first | assumption | (rw [hst];done) | (rw [hst];simp only [List.append_assoc])),by first | rfl | exact vi om_ | exact vs (by first | assumption | (rw [hst];done) | (rw [hst];simp only [List.append_assoc])),ao_,ao_,ao_,ao_,ao_,(by exact .inl ⟨rfl,rfl⟩)⟩
   ·rintro _ E wL27 ⟨i,m,em,e7,e24,e25,e26,hi,hB,hl,hu,bx23,hmh⟩;rw [upd_self e7,upd_self e24,upd_self e25,upd_self e26];refine W.seq (W.region (L.val (x_lss rfl rfl) rfl ?_));refine L.nil (thn_n (W.seq (W.cond (b:=_) rfl (fun g27=>?_) (fun g27=>?_))))
    ·have h27:=of_decide_eq_true g27;have hlt:i<ls.length:=by omega
     obtain ⟨bu,ou,rfl,hc⟩:=hu.elem (i:=i) (by rw [hal];exact hlt);rw [allB_get hlt] at hc;have hbi:=big_get hb (i:=i) (by rw [hal];exact hlt);rw [allB_get hlt] at hbi;have hmi:=hm (ls.getD i []) (by rw [List.getD_eq_getElem?_getD,List.getElem?_eq_getElem hlt];exact List.getElem_mem hlt);have hGi:Rises (comes [] (ls.take i).flatten):=comes_rises rises_nil;have hst:=comes_take hlt;have hbxl:=bx23.lt;refine W.skip (thn_n (W.seq (W.block (W.seq (W.region ?_)))));have hmh0:=hmh;refine L.val (x_ia1 (j:=i) Tryz.underlying22 kstof_sz9 rfl rfl om_ om_) rfl ?_;refine L.val (x_ld (v:=S _) kstof_oc9 rfl hc) rfl ?_;refine L.val (x_as (v:=S _) rfl) rfl ?_;refine L.nil (thn_n (W.seq (W.region (L.val (x_mv (v:=S _) rfl) rfl ?_))));refine L.ret (x_call kstof_en62 rfl) rfl (edits_ok (ls.getD i []) hmi hbi _) ?_;rintro _ w32 ⟨⟨v32,rfl,hE⟩,hw⟩;have hB:=hB.carry hw;have hl:=hl.carry hw;have hu:=hu.carry hw;have bx23:=bx23.carry hw;have hmh:=hmh.carry hw;obtain ⟨pe,ce,re,rfl,-⟩:=id hE;have hsz32:=hw.size;have hmlt:∀ k,m=some k→w23.heap.size≤k∧k<wL27.heap.size:=fun k hk=>by
       rcases hmh0 with ⟨e1,-⟩ | ⟨mb,l',e1,h2,hH⟩
       · rw [e1] at hk;cases hk
       · rw [e1] at hk;cases hk;exact ⟨h2,hH.map.lt⟩
     refine L.val (x_mv (v:=_) rfl) rfl ?_;refine L.val (x_ext (v:=.slice _ _ _) rfl rfl) rfl ?_;refine L.val (x_ext (v:=.bool _) rfl rfl) rfl ?_;refine L.val (x_as (v:=.slice _ _ _) rfl) rfl ?_;refine L.val (x_as (v:=.bool _) rfl) rfl ?_;refine L.nil (thn_n (W.seq (W.seq (W.region (L.val (x_mv (v:=.bool _) rfl) rfl ?_)))));refine L.val (x_not rfl) rfl ?_;refine L.nil (thn_n (W.cond (b:=_) rfl (fun g36=>?_) (fun g36=>?_)))
     ·have h36:=(not_t g36);cases g36
     ·have h36:=(not_f g36);refine W.skip (thn_n (W.region (L.val (x_mv (v:=.pointer _) rfl) rfl ?_)));refine L.val (x_nil rfl) rfl ?_;refine L.val (x_fa kstof_fo100_0 rfl) rfl ?_;refine L.val (x_mv (v:=.slice _ _ _) rfl) rfl ?_;refine L.ret (x_call kstof_en43 rfl) rfl (apply_ok w23.heap.size (fun k=>k<wL27.heap.size) _ 100 [.pointer (some ⟨bl,0,none⟩)] m (comes [] (ls.take i).flatten) _ (ls.getD i []) _ bx23 hmh hGi hE hbxl (fun k hk=>(hmlt k hk).2) (by have:=hB.size;omega)) ?_;rintro _ w41 ⟨mb,lm,bxN,hnm,hHN,hmm,hG41⟩;have hB:=hB.step hG41 (fun k hk e=>by
        rcases e with e | e
        · omega
        · have:=(hmlt k e.symm).1;omega)
      have hmN:MapHas w23.heap.size w41 (some mb) (comes [] (ls.take (i+1)).flatten):=by rw [hst];exact .inr ⟨mb,lm,rfl,hnm,hHN⟩
      have hu:=hu.carryR hG41 (fun k e=>by
        rcases e with e | e
        · omega
        · have:=(hmlt k e.symm).1;omega)
      have hl:LogB w.heap.size w41 bl b p false:=⟨hl.1,hl.2.carryR hG41 (fun e=>by
        rcases e with e | e
        · have:=box_ne bx23 hl.2 (by decide);omega
        · rcases hmh with ⟨e1,-⟩ | ⟨mb',l',e1,-,hH⟩
          · rw [e1] at e;cases e
          · rw [e1] at e;cases e;obtain ⟨es,ck',hes,-⟩:=hH.map;have:=hl.2;unfold Box at this;rw [hes] at this;cases this)⟩
      refine L.nil (blk_n (thn_n (W.region (L.val (x_add rfl rfl (wr64 om_)) rfl ?_))));refine L.val (x_mv (v:=.int _ _) rfl) rfl ?_;refine L.nil (thn_n ⟨rfl,?_⟩);refine ⟨_,?_,i+1,_,rfl,by first | rfl | exact vi om_ | exact vs (by first | assumption | (rw [hst];done) | (rw [hst];simp only [List.append_assoc])),by first | rfl | exact vi om_ | exact vs (by first | assumption | (rw [hst];done) | (rw [hst];simp only [List.append_assoc])),by first | rfl | exact vi om_ | exact vs (by first | assumption | (rw [hst];done) | (rw [hst];simp only [List.append_assoc])),by first | rfl | exact vi om_ | exact vs (by first | assumption | (rw [hst];done) | (rw [hst];simp only [List.append_assoc])),ao_,ao_,ao_,ao_,(by exact bxN),(by exact hmN)⟩;omega
    ·have h27:=dlt_f g27;have hie:i=ls.length:=by omega
     subst hie;rw [List.take_length] at hmh;refine W.exit (thn_x (thn_x (blk_hit ?_)));refine thn_n (W.seq (W.region (L.val (x_mv (v:=.pointer _) rfl) rfl ?_)));refine L.val (x_as (v:=.pointer _) rfl) rfl ?_;refine L.val (x_as (v:=.int _ _) rfl) rfl ?_;refine L.nil (thn_n (W.ret (fin_mk (.inr rfl) ?_)));refine ⟨⟨_,bl,rfl,⟨m,hz14,bx23,?_⟩,hl⟩,hB⟩;rcases hmh with h | ⟨mb,l',e1,h2,hH⟩
     · exact .inl h
     · exact .inr ⟨mb,l',e1,by omega,hH⟩
end Go.Gx
