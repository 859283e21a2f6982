/- What a store's calls do to a disk: the plain bounds. Conditions: none. -/
import Derived.Test.YtdklfpoofgagmaaGreatQbStoH
import Derived.Test.YtdklfpoofgagmaaGreatQbRf12
namespace Go.Gx
open Go.Proofs
theorem wrF_same {D:Dk} (h:D.armed=0) (K K':Fl) (i:Nat) (s:Str):wrF D K i s=wrF D K' i s∧(wrF D K i s).armed=0:=by
  unfold wrF;rw [if_neg om_,if_neg om_];exact ⟨rfl,by show D.armed - 1=0;omega⟩
theorem flF_same {D:Dk} (h:D.armed=0) (K K':Fl):flF D K=flF D K'∧(flF D K).armed=0:=by
  unfold flF;rw [if_neg om_,if_neg om_];exact ⟨rfl,by show D.armed - 1=0;omega⟩
theorem runW_same (K K':Fl):∀ (l:List (Nat × Str)) {D:Dk},D.armed=0→runW K D l=runW K' D l∧(runW K D l).armed=0
  | [],D,h=>⟨rfl,h⟩
  | x :: l,D,h=>by
    obtain ⟨h1,h2⟩:=wrF_same h K K' x.1 x.2;rw [runW,runW,← h1];split
    · exact ⟨rfl,h2⟩
    · exact runW_same K K' l h2
theorem comF_same {D:Dk} (h:D.armed=0) (K K':Fl) (ws:List (Nat × Str)) (sl:Nat) (hd:Str):comF D K ws sl hd=comF D K' ws sl hd:=by
  unfold comF;obtain ⟨h1,a1⟩:=runW_same K K' ws h;dsimp only;rw [← h1];generalize runW K D ws=A at *;obtain ⟨h2,a2⟩:=wrF_same a1 K K' sl (zeros 64);rw [← h2];generalize wrF A K sl (zeros 64)=B at *;obtain ⟨h3,a3⟩:=flF_same a2 K K';rw [← h3];generalize flF B K=C at *;obtain ⟨h4,a4⟩:=wrF_same a3 K K' sl hd;rw [← h4];generalize wrF C K sl hd=E at *;rw [(flF_same a4 K K').1]
theorem outF_same {D:Dk} (h:D.armed=0) (K K':Fl) (q p:Pt) (at':Nat) (s:Str):outF D K q p at' s=outF D K' q p at' s:=by
  unfold outF;rw [comF_same h K K']
theorem appM_same {D:Dk} (h:D.armed=0) (K K':Fl) (q:Pt) (l:List Str):appM D K q l=appM D K' q l:=by
  unfold appM;rw [outF_same h K K']
theorem turnM_same {D:Dk} (h:D.armed=0) (K K':Fl) (q:Pt) (l:List Str):turnM D K q l=turnM D K' q l:=by
  unfold turnM;rw [outF_same h K K']
theorem comM_same {D:Dk} (h:D.armed=0) (K K':Fl) (q:Pt) (G l:List Ed):comM D K q G l=comM D K' q G l:=by
  unfold comM;rw [appM_same h K K',turnM_same h K K']
structure Rd (D:Dk) (q:Pt) (n m:Nat) (r:Int × Dk × Pt):Prop where
  pl:r.2.1.pl.length=D.pl.length
  ca:r.2.1.ca=[]
  ops:r.2.1.ops≤D.ops+n
  arm:r.2.1.armed≤D.armed
  quiet:r.2.1.dead=true→r.2.1.armed=0
  half:r.2.2.half≤1
  tail:r.2.2.tail≤roomN D.pl.length
  ep:r.2.2.ep<18446744073709551616
  cnt:r.2.2.cnt≤m
theorem Rd.same {D:Dk} {q:Pt} {n m:Nat} {e:Int} (hq:QM D q) (hc:q.cnt≤m):Rd D q n m (e,D,q):=by
  refine ⟨rfl,hq.ca,Nat.le_add_right _ _,Nat.le_refl _,fun h=>?_,hq.half,hq.tail,hq.ep,hc⟩;rw [hq.live] at h;cases h
theorem out_rd {D:Dk} {K:Fl} {q p:Pt} {at':Nat} {s:Str} {m:Nat} (hok:DkOk D) (hq:QM D q) (hm:q.cnt≤m) (hp:p.half≤1) (hpt:p.tail≤roomN D.pl.length) (hpe:p.ep<18446744073709551616) (hpc:p.cnt≤m) (hr:at'+s.length≤roomN D.pl.length):Rd D q 3000 m (outF D K q p at' s):=by
  obtain ⟨c1,c2,c3,c4⟩:=comF_case K (chk D p at' s) (p.ep % 2) (hdrS p) hq.live hq.ca;have hcl:=chk_len D p at' s;have hal:=allS_len hok (s:=s) hq.h6 hp (at':=at') om_;have hsm:=hok.small;have hrN:roomN D.pl.length=hlf D.pl.length * 64:=rfl;have hhl:hlf D.pl.length≤2047:=by unfold hlf;omega
  have hnc:nck D p at' s≤2200:=by
    unfold nck;split <;> omega
  refine ⟨?_,c1,?_,comF_arm _ _ _ _ _,fun h=>?_,?_,?_,?_,?_⟩
  · show (comF D K _ _ _).pl.length=_;rcases c4 with ⟨-,-,⟨m',e⟩ | e⟩ | ⟨-,e⟩ <;> rw [e] <;> simp only [dropL_len,apD_len]
  · show (comF D K _ _ _).ops≤_;omega
  · have h:(comF D K (chk D p at' s) (p.ep % 2) (hdrS p)).dead=true:=h;rcases c4 with ⟨-,e,-⟩ | ⟨e,-⟩
    · exact e
    · rw [e] at h;cases h
  · show (if _ then q else p).half≤1;split
    · exact hq.half
    · exact hp
  · show (if _ then q else p).tail≤_;split
    · exact hq.tail
    · exact hpt
  · show (if _ then q else p).ep<_;split
    · exact hq.ep
    · exact hpe
  · show (if _ then q else p).cnt≤_;split
    · exact hm
    · exact hpc
theorem app_rd {D:Dk} {K:Fl} {q:Pt} {l:List Str} {m:Nat} (hok:DkOk D) (hq:QM D q) (hm:q.cnt+l.length≤m):Rd D q 3000 m (appM D K q l):=by
  unfold appM;split
  · split
    · exact Rd.same hq om_
    · exact out_rd hok hq om_ hq.half (by show q.tail+_≤_;omega) (by show (q.ep+1) % _<_;omega) hm om_
  · exact Rd.same hq om_
theorem turn_rd {D:Dk} {K:Fl} {q:Pt} {l:List Str} {m:Nat} (hok:DkOk D) (hq:QM D q) (hm:q.cnt≤m) (hl:l.length≤m):Rd D q 3000 m (turnM D K q l):=by
  unfold turnM;split
  · split
    · exact Rd.same hq hm
    · exact out_rd hok hq hm (by show 1 - q.half≤1;omega) (by show (makeS l).1.length≤_;omega) (by show (q.ep+1) % _<_;omega) hl om_
  · exact Rd.same hq hm
theorem com_rd {D:Dk} {K:Fl} {q:Pt} {G l:List Ed} {m:Nat} (hok:DkOk D) (hq:QM D q) (hm:q.cnt+1≤m) (hl:(comes G l).length≤m):Rd D q 3000 m (comM D K q G l):=by
  unfold comM;split
  · split
    · exact Rd.same hq om_
    · split
      · exact turn_rd hok hq om_ (by unfold allB snapL;rw [List.length_map,List.length_map];exact hl)
      · exact app_rd hok hq hm
  · exact Rd.same hq om_
end Go.Gx
namespace Go.Gx
open Go.Proofs
theorem krf18_el9:elT Tryz.prog 9 1=true:=by kernel_rfl
theorem krf18_en34:Go.Proofs.Enters Tryz.prog 34:=Go.Proofs.enters_of Tryz.func34 kr_ rfl
theorem krf18_en47:Go.Proofs.Enters Tryz.prog 47:=Go.Proofs.enters_of Tryz.func47 kr_ rfl
theorem krf18_en48:Go.Proofs.Enters Tryz.prog 48:=Go.Proofs.enters_of Tryz.func48 kr_ rfl
theorem krf18_en49:Go.Proofs.Enters Tryz.prog 49:=Go.Proofs.enters_of Tryz.func49 kr_ rfl
theorem krf18_en50:Go.Proofs.Enters Tryz.prog 50:=Go.Proofs.enters_of Tryz.func50 kr_ rfl
theorem krf18_en8:Go.Proofs.Enters Tryz.prog 8:=Go.Proofs.enters_of Tryz.func8 kr_ rfl
theorem krf18_fo33_0:fieldOff Tryz.prog 33 0=some 0:=by kernel_rfl
theorem krf18_fo33_1:fieldOff Tryz.prog 33 1=some 1:=by kernel_rfl
theorem krf18_mixed:Tryz.prog.follows .mixedOrders=true:=by kernel_rfl
theorem krf18_oc30:oneCellT Tryz.prog 30=true:=by kernel_rfl
theorem krf18_oc31:oneCellT Tryz.prog 31=true:=by kernel_rfl
theorem compact23d (n0 bs bl b bp:Nat) (D:Dk) (K:Fl) (q:Pt) (br:Bool) (G:List Ed) (w:World) (h:RDisk n0 w b bp D K) (hl:RLog n0 w bl b q br) (hd:D.dead=true) (hst:RSto n0 w bs bl G) (hmay:mayL G=true) (hGl:G.length≤1000000):
    Ret Tryz.prog 18 #[.pointer (some ⟨bs,0,none⟩)] w fun v w'=>v=.int .i64 190∧Bel w w':=by
  obtain ⟨hbs,p,c,hb,hE,hok⟩:=id hst;refine ret_of_W Tryz.func18 rfl (Nat.le_of_ble_eq_true rfl) (res1 rfl) ?_;have hB:=Gr.refl (fun _=>False) w;refine W.seq (W.region (L.val (x_as (v:=.int _ _) rfl) rfl ?_));refine L.nil (thn_n (W.seq (W.drawF 11 krf18_mixed (fun wF3 hB0=>?_))));refine LAC.takeN (i:=0) rfl kr_ kr_ kr_ kr_ (fun w hw=>x_mv (v:=.pointer _) rfl) rfl ?_;refine LAC.takeN (i:=1) rfl kr_ kr_ kr_ kr_ (fun w hw=>x_nil rfl) rfl ?_;refine LAC.takeN (i:=2) rfl kr_ kr_ kr_ kr_ (fun w hw=>x_fa krf18_fo33_0 rfl) rfl ?_;refine LAC.takeN (i:=3) rfl kr_ kr_ kr_ kr_ (fun w hw=>x_ld (v:=.pointer _) krf18_oc30 rfl (hw.keep (hb.cell0 rfl))) rfl ?_;refine LAC.takeN (i:=4) rfl kr_ kr_ kr_ kr_ (fun w hw=>x_mv (v:=.pointer _) rfl) rfl ?_;refine LAC.takeN (i:=5) rfl kr_ kr_ kr_ kr_ (fun w hw=>x_nil rfl) rfl ?_;refine LAC.takeN (i:=6) rfl kr_ kr_ kr_ kr_ (fun w hw=>x_fa krf18_fo33_1 rfl) rfl ?_;refine LAC.takeN (i:=7) rfl kr_ kr_ kr_ kr_ (fun w hw=>x_ld (v:=.slice _ _ _) krf18_oc31 rfl (hw.keep (hb.cell0 rfl))) rfl ?_;refine LAC.step (rs:=[8]) (fun _=>hB0) kr_ (by simp) ⟨⟨_,rfl,?_⟩,trivial⟩;refine L.ret (x_call krf18_en50 rfl) rfl (snap23 _ _ G _ (own_eds (Own.carry hE hB0) hok hGl) hmay hGl) ?_;rintro v11 w11 ⟨hv11,hw⟩;have hB0:=hB0.carry hw;obtain ⟨p11,c11,rfl,-⟩:=id hv11;refine L.nil (thn_n (LAC.step (rs:=[9]) (fun _=>hB0) kr_ (by simp) ⟨⟨_,rfl,?_⟩,trivial⟩));refine L.ret (x_call krf18_en49 rfl) rfl (turn21d n0 bl b bp D K q br _ _ (h.bel hB0) (hl.carry hB0) hd) ?_;rintro _ w12 ⟨rfl,rfl⟩;refine L.nil (thn_n (LAC.takeN (i:=10) rfl kr_ kr_ kr_ kr_ (fun w hw=>x_as (v:=.int _ _) rfl) rfl ?_));refine LAC.doneF kr_ hB0 ?_;have hB:=hB.carry hB0;have h:=h.carry hB0;have hl:=hl.carry hB0;have hE:=hE.carry hB0;have hb:=hb.carry hB0;refine thn_n (W.ret (fin_mk (.inr rfl) ?_));exact ⟨rfl,hB⟩
theorem commit23d (n0 bs bl b bp:Nat) (A:Nat→Prop) (v:Value) (l:List Ed) (D:Dk) (K:Fl) (q:Pt) (br:Bool) (G:List Ed) (w:World) (h:RDisk n0 w b bp D K) (hl:RLog n0 w bl b q br) (hd:D.dead=true) (hst:RSto n0 w bs bl G) (hs:EdsAt A w v l)
    (hln:l.length≤10000) (hGl:G.length+l.length≤1000000):
    Ret Tryz.prog 16 #[.pointer (some ⟨bs,0,none⟩),v] w fun v w'=>v=.int .i64 (if mayL l=true then 190 else 230)∧Bel w w':=by
  obtain ⟨hbs,p,c,hb,hE,hok⟩:=id hst;have hs:=(hs.up).mono (A':=fun k=>w.heap.size≤k) (fun _ _ hk=>.inr hk);obtain ⟨pv,cv,row,rfl,-⟩:=id hs;have hGn:=comes_len0 (g:=G) (h:=l);refine ret_of_W Tryz.func16 rfl (Nat.le_of_ble_eq_true rfl) (res1 rfl) ?_;have hB:=Gr.refl (fun _=>False) w;refine W.seq (W.region (L.val (x_as (v:=.int _ _) rfl) rfl ?_));refine L.nil (thn_n (W.seq (W.seq (W.region (L.val (x_mv (v:=.slice _ _ _) rfl) rfl ?_)))));refine L.ret (x_call krf18_en47 rfl) rfl (may23 _ _ l _ hs) ?_;rintro _ w8 ⟨rfl,hw⟩;have hB:=hB.carry hw;have h:=h.carry hw;have hl:=hl.carry hw;have hE:=hE.carry hw;have hb:=hb.carry hw;have hs:=hs.carry hw;refine L.val (x_not rfl) rfl ?_;refine L.nil (thn_n (W.cond (b:=_) rfl (fun g9=>?_) (fun g9=>?_)))
  ·have h9:=(not_t g9);have hml:¬ mayL l=true:=by simpa using g9
   refine W.seq (W.region (L.val (x_as (v:=.int _ _) rfl) rfl ?_));refine L.nil (thn_n (W.ret (thn_r (fin_mk (.inr rfl) ?_))));rw [if_neg hml];exact ⟨rfl,hB⟩
  ·have h9:=(not_f g9);have hml:mayL l=true:=by simpa using g9
   refine W.skip (thn_n (W.seq (W.seq (W.region (L.val (x_mv (v:=.slice _ _ _) rfl) rfl ?_)))));refine L.val (x_len_slice Tryz.underlying31 rfl) rfl ?_;refine L.val (x_eql rfl rfl) rfl ?_;refine L.nil (thn_n (W.cond (b:=_) rfl (fun g12=>?_) (fun g12=>?_)))
   ·have h12:=of_decide_eq_true g12;refine W.seq (W.region (L.val (x_mv (v:=.pointer _) rfl) rfl ?_));refine L.val (x_nil rfl) rfl ?_;refine L.val (x_fa krf18_fo33_0 rfl) rfl ?_;refine L.val (x_ld (v:=.pointer _) krf18_oc30 rfl (hb.cell0 rfl)) rfl ?_;refine L.ret (x_call krf18_en8 rfl) rfl (append21d n0 bl b bp D K q br _ _ h hl hd) ?_;rintro _ w17 ⟨rfl,rfl⟩;refine L.val (x_as (v:=.int _ _) rfl) rfl ?_;refine L.nil (thn_n (W.ret (thn_r (fin_mk (.inr rfl) ?_))));rw [if_pos hml];exact ⟨rfl,hB⟩
   ·have h12:=of_decide_eq_false g12;refine W.skip (thn_n (W.seq (W.region (L.val (x_mv (v:=.pointer _) rfl) rfl ?_))));refine L.val (x_nil rfl) rfl ?_;refine L.val (x_fa krf18_fo33_1 rfl) rfl ?_;refine L.val (x_ld (v:=.slice _ _ _) krf18_oc31 rfl (hb.cell0 rfl)) rfl ?_;refine L.val (x_mv (v:=.slice _ _ _) rfl) rfl ?_;refine L.ret (x_call krf18_en34 rfl) rfl (do23 _ _ _ _ G l _ (own_eds hE hok om_) hs om_) ?_;rintro _ w23 ⟨⟨po,co,rfl,hO,hok2⟩,hw⟩;have hB:=hB.carry hw;have h:=h.carry hw;have hl:=hl.carry hw;have hE:=hE.carry hw;have hb:=hb.carry hw;have hs:=hs.carry hw;refine L.val (x_as (v:=.slice _ _ _) rfl) rfl ?_;refine L.nil (thn_n (W.seq (W.drawF 9 krf18_mixed (fun wF24 hB0=>?_))));refine LAC.takeN (i:=0) rfl kr_ kr_ kr_ kr_ (fun w hw=>x_mv (v:=.pointer _) rfl) rfl ?_;refine LAC.takeN (i:=1) rfl kr_ kr_ kr_ kr_ (fun w hw=>x_nil rfl) rfl ?_;refine LAC.takeN (i:=2) rfl kr_ kr_ kr_ kr_ (fun w hw=>x_fa krf18_fo33_0 rfl) rfl ?_;refine LAC.takeN (i:=3) rfl kr_ kr_ kr_ kr_ (fun w hw=>x_ld (v:=.pointer _) krf18_oc30 rfl (hw.keep (hb.cell0 rfl))) rfl ?_;refine LAC.takeN (i:=4) rfl kr_ kr_ kr_ kr_ (fun w hw=>x_mv (v:=.slice _ _ _) rfl) rfl ?_;refine LAC.step (rs:=[5]) (fun _=>hB0) kr_ (by simp) ⟨⟨_,rfl,?_⟩,trivial⟩;refine L.ret (x_call krf18_en48 rfl) rfl (body23 _ _ l _ (hs.carry hB0) om_ (by have:=mayL_body hml om_;omega)) ?_;rintro _ w29 ⟨rfl,hw⟩;have hB0:=hB0.carry hw;refine L.nil (thn_n (LAC.step (rs:=[6]) (fun _=>hB0) kr_ (by simp) ⟨⟨_,rfl,?_⟩,trivial⟩));refine L.bs (sz:=1) (cells:=[S (bodyB l)]) Tryz.underlying22 krf18_el9 rfl rfl rfl rfl (fun w30 bx30 hw hz30=>?_);have hB0:=hB0.carry hw;refine L.nil (thn_n (LAC.step (rs:=[7]) (fun _=>hB0) kr_ (by simp) ⟨⟨_,rfl,?_⟩,trivial⟩));refine L.ret (x_call krf18_en8 rfl) rfl (append21d n0 bl b bp D K q br _ _ (h.bel hB0) (hl.carry hB0) hd) ?_;rintro _ w31 ⟨rfl,rfl⟩;refine L.nil (thn_n (LAC.takeN (i:=8) rfl kr_ kr_ kr_ kr_ (fun w hw=>x_as (v:=.int _ _) rfl) rfl ?_));refine LAC.doneF kr_ hB0 ?_;have hB:=hB.carry hB0;have h:=h.carry hB0;have hl:=hl.carry hB0;have hE:=hE.carry hB0;have hb:=hb.carry hB0;have hs:=hs.carry hB0;refine thn_n (W.seq (W.seq (W.region (L.val (x_mv (v:=.int _ _) rfl) rfl ?_))));refine L.val (x_eql rfl rfl) rfl ?_;refine L.nil (thn_n (W.cond (b:=_) rfl (fun g33=>?_) (fun g33=>?_)))
    ·have h33:=of_decide_eq_true g33;cases g33
    ·have h33:=of_decide_eq_false g33;refine W.skip (thn_n (W.seq (W.seq (W.region (L.val (x_mv (v:=.int _ _) rfl) rfl ?_)))));refine L.val (x_eql rfl rfl) rfl ?_;refine L.nil (thn_n (W.cond (b:=_) rfl (fun g42=>?_) (fun g42=>?_)))
     ·have h42:=of_decide_eq_true g42;cases g42
     ·have h42:=of_decide_eq_false g42;refine W.skip (thn_n (W.seq (W.region (L.val (x_mv (v:=.int _ _) rfl) rfl ?_))));refine L.val (x_as (v:=.int _ _) rfl) rfl ?_;refine L.nil (thn_n (W.ret (fin_mk (.inr rfl) ?_)));rw [if_pos hml];exact ⟨rfl,hB⟩
end Go.Gx
namespace Go.Gx
open Go.Proofs Go.Sort
theorem kwst_ag97:aggT Tryz.prog 97 1=true:=by kernel_rfl
theorem kwst_el9:elT Tryz.prog 9 1=true:=by kernel_rfl
theorem kwst_en40:Go.Proofs.Enters Tryz.prog 40:=Go.Proofs.enters_of Tryz.func40 kr_ rfl
theorem kwst_en41:Go.Proofs.Enters Tryz.prog 41:=Go.Proofs.enters_of Tryz.func41 kr_ rfl
theorem kwst_en42:Go.Proofs.Enters Tryz.prog 42:=Go.Proofs.enters_of Tryz.func42 kr_ rfl
theorem kwst_en43:Go.Proofs.Enters Tryz.prog 43:=Go.Proofs.enters_of Tryz.func43 kr_ rfl
theorem kwst_en44:Go.Proofs.Enters Tryz.prog 44:=Go.Proofs.enters_of Tryz.func44 kr_ rfl
theorem kwst_en45:Go.Proofs.Enters Tryz.prog 45:=Go.Proofs.enters_of Tryz.func45 kr_ rfl
theorem kwst_en46:Go.Proofs.Enters Tryz.prog 46:=Go.Proofs.enters_of Tryz.func46 kr_ rfl
theorem kwst_fo100_0:fieldOff Tryz.prog 100 0=some 0:=by kernel_rfl
theorem kwst_fo100_1:fieldOff Tryz.prog 100 1=some 1:=by kernel_rfl
theorem kwst_fo97_0:fieldOff Tryz.prog 97 0=some 0:=by kernel_rfl
theorem kwst_mixed:Tryz.prog.follows .mixedOrders=true:=by kernel_rfl
theorem kwst_oc95:oneCellT Tryz.prog 95=true:=by kernel_rfl
theorem kwst_oc98:oneCellT Tryz.prog 98=true:=by kernel_rfl
theorem kwst_si97:structInfo Tryz.prog 97=some ([(0,1)],[Value.map none]):=by kernel_rfl
theorem kwst_zr97:(Tryz.prog.info? 97).bind (·.zero)=some (Value.agg [Value.map none].toArray):=by kernel_rfl
theorem scompact_m (n0 bs bl b:Nat) (D:Dk) (K:Fl) (q:Pt) (G:List Ed) (w:World) (h:DiskF n0 w b D K) (hl:LogB n0 w bl b q false) (hq:QM D q) (har:D.armed≤9223372036854775807) (hst:StoAt n0 w bs bl G) (hG:Rises G) (hmay:mayL G=true) (hn:n0≤w.heap.size) (hGl:G.length≤1000000) (hne:need (allB (snapL G))≤10000000):
    Ret Tryz.prog 17 #[.pointer (some ⟨bs,0,none⟩)] w fun v w'=>v=.int .i64 (turnM D K q (allB (snapL G))).1∧(∃ K2,DiskF n0 w' b (turnM D K q (allB (snapL G))).2.1 K2∧((turnM D K q (allB (snapL G))).2.1.dead=false→K2=K))∧LogB n0 w' bl b (turnM D K q (allB (snapL G))).2.2 (turnM D K q (allB (snapL G))).2.1.dead∧StoAt n0 w' bs bl G∧Dg stTy n0 w w':=by
  obtain ⟨m,hbs,hb,hm⟩:=id hst;refine ret_of_W Tryz.func17 rfl (Nat.le_of_ble_eq_true rfl) (res1 rfl) ?_;refine W.seq (W.region (L.val (x_as (v:=.int _ _) rfl) rfl ?_));refine L.nil (thn_n (W.seq (W.seq (W.region (L.val (x_mv (v:=.pointer _) rfl) rfl ?_)))));refine L.val (x_eqp0 Tryz.underlying40 rfl rfl) rfl ?_;refine L.val (x_mv (v:=.bool _) rfl) rfl ?_;refine' L.group0 5 6 10 10 5 false rfl ?_ ?_ ?_;rotate_left 1
  ·intro g5;have h5:=g5;refine L.gyes' (dj:=5) (b:=_) rfl rfl g5 ?_;refine L.val (x_mv (v:=.pointer _) rfl) rfl ?_;refine L.gyes' (dj:=5) (b:=_) rfl rfl g5 ?_;refine L.val (x_nil rfl) rfl ?_;refine L.gyes' (dj:=5) (b:=_) rfl rfl g5 ?_;refine L.val (x_fa kwst_fo100_1 rfl) rfl ?_;refine L.gyes' (dj:=5) (b:=_) rfl rfl g5 ?_;refine L.val (x_ld (v:=.pointer _) kwst_oc98 rfl (hb.cell0 rfl)) rfl ?_;refine L.gyes' (dj:=5) (b:=_) rfl rfl g5 ?_;refine L.val (x_eqp0 Tryz.underlying98 rfl rfl) rfl ?_;refine L.nil (thn_n ⟨rfl,rfl,?_,rfl⟩);repeat (first | exact jeq.refl _ _ _ | refine jeq.upd rfl ?_ | refine jeq.jk rfl rfl ?_)
  ·intro g5;(iterate 5 refine L.gno (dj:=5) (b:=_) rfl rfl g5 rfl ?_);refine L.nil (thn_n ⟨rfl,rfl,?_⟩);repeat (first | exact jeq.refl _ _ _ | refine jeq.upd rfl ?_ | refine jeq.jk rfl rfl ?_)
  intro J5 j5;refine L.val (x_or rfl j5) rfl ?_;refine L.nil (thn_n (W.cond (b:=_) rfl (fun g11=>?_) (fun g11=>?_)))
  ·have h11:=g11;cases g11
  ·have h11:=g11;refine W.skip (thn_n (W.seq (W.drawD (fun _=>True) (fun _=>False) 8 kwst_mixed (fun wD12 hw=>?_))));have hB0:=Gr.refl (fun _=>False) wD12;have hR0:=Gr.refl (fun _=>True) wD12;have hb:=hb.carry hw;have hm:=hm.carry hw;have h:=h.bel hw;have hl:=hl.bel hw;have hst:=hst.carry hw;have hG0:Dg lgTy n0 w wD12:=Dg.of_bel hw;have hn:=Nat.le_trans hn hw.size;refine LAD.take0 (i:=0) rfl kr_ kr_ kr_ kr_ (fun w hw=>x_mv (v:=.pointer _) rfl) rfl ?_;refine LAD.take0 (i:=1) rfl kr_ kr_ kr_ kr_ (fun w hw=>x_nil rfl) rfl ?_;refine LAD.take0 (i:=2) rfl kr_ kr_ kr_ kr_ (fun w hw=>x_fa kwst_fo100_1 rfl) rfl ?_;refine LAD.take1 (i:=3) rfl kr_ kr_ kr_ kr_ kr_ kr_ (fun w hw=>x_ld (v:=.pointer _) kwst_oc98 rfl (hw.keepR (fun e=>e) (hb.cell0 rfl))) rfl ?_;refine LAD.take0 (i:=4) rfl kr_ kr_ kr_ kr_ (fun w hw=>x_mv (v:=.pointer _) rfl) rfl ?_;refine LAD.take0 (i:=5) rfl kr_ kr_ kr_ kr_ (fun w hw=>x_nil rfl) rfl ?_;refine LAD.take0 (i:=6) rfl kr_ kr_ kr_ kr_ (fun w hw=>x_fa kwst_fo100_0 rfl) rfl ?_;refine LAD.step (rs:=[7]) hR0 (fun _=>hB0) kr_ (by simp) ⟨⟨_,rfl,?_⟩,trivial⟩;refine L.ret (x_call kwst_en46 rfl) rfl (snapshot_ok _ (hb.carry hB0) (hm.carry hB0) hG hmay hGl) ?_;rintro v19 w19 ⟨hv19,hw⟩;have hB0:=hB0.carry hw;have hR0:=hR0.carry hw;have hb:=hb.carry hw;obtain ⟨p19,c19,rfl,-⟩:=id hv19;have hv19:=hv19.new;refine L.nil (thn_n (LAD.step (rs:=[8]) hR0 (fun _=>hB0) kr_ (by simp) ⟨⟨_,rfl,?_⟩,trivial⟩));refine L.ret (x_call kwst_en45 rfl) rfl (turn_m n0 bl b _ _ (allB (snapL G)) D K q _ (h.bel hB0) (hl.bel hB0) hq har hv19 (Nat.le_trans hn hB0.size) hne) ?_;rintro _ w20 ⟨rfl,h20,hl20,hg20⟩;have hG20d:Dg lgTy n0 wD12 w20:=(Dg.of_bel hB0).trans hg20;have hst20:=hst.dg hG20d;have hG20:=hG0.trans hG20d;have hR0:=hR0.trans (Gr.mono hg20 (fun _ _ _=>trivial));have hb:True:=trivial;refine L.nil (thn_n (LAD.take0 (i:=9) rfl kr_ kr_ kr_ kr_ (fun w hw=>x_as (v:=.int _ _) rfl) rfl ?_));refine LAD.done kr_ kr_ hR0 ?_;refine thn_n (W.ret (fin_mk (.inr rfl) ?_));exact ⟨rfl,h20,hl20,hst20,Dg.mono hG20 st_of_lg⟩
theorem scommit_m (n0 bs bl b:Nat) (A:Nat→Prop) (v:Value) (l:List Ed) (D:Dk) (K:Fl) (q:Pt) (G:List Ed) (w:World) (h:DiskF n0 w b D K) (hl:LogB n0 w bl b q false) (hq:QM D q) (har:D.armed≤9223372036854775807) (hst:StoAt n0 w bs bl G) (hG:Rises G) (hmay:mayL G=true) (hs:EdsAt A w v l) (hn:n0≤w.heap.size)
    (hln:l.length≤10000) (hGl:(comes G l).length≤1000000) (hne:mayL l=true→need (allB (snapL (comes G l)))≤10000000):
    Ret Tryz.prog 15 #[.pointer (some ⟨bs,0,none⟩),v] w fun v w'=>v=.int .i64 (comM D K q G l).1∧(∃ K2,DiskF n0 w' b (comM D K q G l).2.1 K2∧((comM D K q G l).2.1.dead=false→K2=K))∧LogB n0 w' bl b (comM D K q G l).2.2 (comM D K q G l).2.1.dead∧StoAt n0 w' bs bl (if (comM D K q G l).1=0 then comes G l else G)∧Dg stTy n0 w w':=by
  obtain ⟨m,hbs,hb,hm⟩:=id hst;have hs:=(hs.up).mono (A':=fun k=>w.heap.size≤k) (fun _ _ hk=>.inr hk);obtain ⟨pv,cv,row,rfl,-⟩:=id hs;have hdd:D.dead=false:=hq.live;have hbl:=hb.lt;refine ret_of_W Tryz.func15 rfl (Nat.le_of_ble_eq_true rfl) (res1 rfl) ?_;have hB:=Gr.refl (fun _=>False) w;refine W.seq (W.region (L.val (x_as (v:=.int _ _) rfl) rfl ?_));refine L.nil (thn_n (W.seq (W.seq (W.region (L.val (x_mv (v:=.pointer _) rfl) rfl ?_)))));refine L.val (x_eqp0 Tryz.underlying40 rfl rfl) rfl ?_;refine L.val (x_mv (v:=.bool _) rfl) rfl ?_;refine' L.group0 5 10 14 14 9 false rfl ?_ ?_ ?_;rotate_left 1
  ·intro g9;have h9:=g9;refine L.gyes' (dj:=9) (b:=_) rfl rfl g9 ?_;refine L.val (x_mv (v:=.pointer _) rfl) rfl ?_;refine L.gyes' (dj:=9) (b:=_) rfl rfl g9 ?_;refine L.val (x_nil rfl) rfl ?_;refine L.gyes' (dj:=9) (b:=_) rfl rfl g9 ?_;refine L.val (x_fa kwst_fo100_1 rfl) rfl ?_;refine L.gyes' (dj:=9) (b:=_) rfl rfl g9 ?_;refine L.val (x_ld (v:=.pointer _) kwst_oc98 rfl (hb.cell0 rfl)) rfl ?_;refine L.gyes' (dj:=9) (b:=_) rfl rfl g9 ?_;refine L.val (x_eqp0 Tryz.underlying98 rfl rfl) rfl ?_;refine L.nil (thn_n ⟨rfl,rfl,?_,rfl⟩);repeat (first | exact jeq.refl _ _ _ | refine jeq.upd rfl ?_ | refine jeq.jk rfl rfl ?_)
  ·intro g9;(iterate 5 refine L.gno (dj:=9) (b:=_) rfl rfl g9 rfl ?_);refine L.nil (thn_n ⟨rfl,rfl,?_⟩);repeat (first | exact jeq.refl _ _ _ | refine jeq.upd rfl ?_ | refine jeq.jk rfl rfl ?_)
  intro J9 j9;refine L.val (x_or rfl j9) rfl ?_;refine L.nil (thn_n (W.cond (b:=_) rfl (fun g15=>?_) (fun g15=>?_)))
  ·have h15:=g15;cases g15
  ·have h15:=g15;refine W.skip (thn_n (W.seq (W.seq (W.region (L.val (x_mv (v:=.slice _ _ _) rfl) rfl ?_)))));refine L.ret (x_call kwst_en40 rfl) rfl (may_ok _ _ l _ (hs.carry hB)) ?_;rintro _ w17 ⟨rfl,hw⟩;have hB:=hB.carry hw;have hb:=hb.carry hw;refine L.val (x_not rfl) rfl ?_;refine L.nil (thn_n (W.cond (b:=_) rfl (fun g18=>?_) (fun g18=>?_)))
   ·have h18:=(not_t g18);have hml:¬ mayL l=true:=by simpa using g18
    have hr:comM D K q G l=(230,D,q):=by unfold comM;rw [if_neg hml]
    refine W.seq (W.region (L.val (x_as (v:=.int _ _) rfl) rfl ?_));refine L.nil (thn_n (W.ret (thn_r (fin_mk (.inr rfl) ?_))));rw [hr];dsimp only;rw [if_neg (by decide)];exact ⟨rfl,⟨K,h.bel hB,fun _=>rfl⟩,(show (D.dead=false) from hdd) ▸ hl.bel hB,hst.carry hB,Dg.of_bel hB⟩
   ·have h18:=(not_f g18);have hml:mayL l=true:=by simpa using g18
    refine W.skip (thn_n (W.seq (W.seq (W.region (L.val (x_mv (v:=.slice _ _ _) rfl) rfl ?_)))));refine L.val (x_len_slice Tryz.underlying31 rfl) rfl ?_;refine L.val (x_eql rfl rfl) rfl ?_;refine L.nil (thn_n (W.cond (b:=_) rfl (fun g21=>?_) (fun g21=>?_)))
    ·have h21:=of_decide_eq_true g21;have hl0:l=[]:=List.eq_nil_of_length_eq_zero om_;have hr:comM D K q G l=(0,D,q):=by unfold comM;rw [if_pos hml,if_pos hl0]
     have hap:=append_m n0 bl b (fun _=>False) (.slice none 0 0) [] D K q;rw [appM_nil] at hap;have hcG:comes G l=G:=by rw [hl0];rfl
     refine W.seq (W.region (L.val (x_mv (v:=.pointer _) rfl) rfl ?_));refine L.val (x_nil rfl) rfl ?_;refine L.val (x_fa kwst_fo100_1 rfl) rfl ?_;refine L.val (x_ld (v:=.pointer _) kwst_oc98 rfl (hb.cell0 rfl)) rfl ?_;refine L.ret (x_call kwst_en41 rfl) rfl (hap _ (h.bel hB) (hl.bel hB) hq har (StrsAt.nil _ _ _ _ om_) (Nat.le_trans hn hB.size) (by decide)) ?_;rintro _ w26 ⟨rfl,h26,hl26,hg26⟩;refine L.val (x_as (v:=.int _ _) rfl) rfl ?_;refine L.nil (thn_n (W.ret (thn_r (fin_mk (.inr rfl) ?_))));rw [hr];dsimp only;rw [if_pos rfl,hcG];have hG26:Dg lgTy n0 w w26:=(Dg.of_bel hB).trans hg26;exact ⟨rfl,h26,(show (D.dead=false) from hdd) ▸ hl26,hst.dg hG26,Dg.mono hG26 st_of_lg⟩
    ·have h21:=of_decide_eq_false g21;have hl0:¬ l=[]:=fun e=>h21 (by rw [e];rfl)
     refine W.skip (thn_n (W.seq (W.region (L.val (x_mv (v:=.pointer _) rfl) rfl ?_))));refine L.val (x_nil rfl) rfl ?_;refine L.val (x_fa kwst_fo100_0 rfl) rfl ?_;refine L.val (x_fa kwst_fo97_0 rfl) rfl ?_;have hs17:=hB.size;refine L.val (x_ld (v:=.map _) kwst_oc95 rfl (hb.cell0 rfl)) rfl ?_;refine L.ret (x_call kwst_en42 rfl) rfl (clone_has n0 m G _ (hm.carry hB)) ?_;rintro v32 w32 ⟨⟨m2,rfl,hm2⟩,hw⟩;have hB:=hB.carry hw;have hb:=hb.carry hw;have hs32:=hB.size;have hs1732:=hw.size;refine L.val (x_build (cells:=[.map _]) kwst_si97 rfl rfl) rfl ?_;have hm2o:=hm2;refine L.alloc (cs:=[Value.map none]) kwst_zr97 rfl rfl (fun w5 bx5 hw hz5=>?_);have hB:=hB.carry hw;have hb:=hb.carry hw;have hw5:=hw;have hs325:=hw.size;refine L.setRow kwst_ag97 rfl rfl bx5 rfl rfl (fun v hv=>by rw [List.mem_singleton.1 hv];rfl) (fun wl33 bx5 hw hzl33=>?_);have hsz:=hB.size;have hB:=hB.set hw om_;have hb:=hb.carryR hw (fun e=>by have e:bs=w32.heap.size:=e;omega);have hm2:MapHas w17.heap.size wl33 m2 G:=(hm2o.carry hw5).carryR hw (fun k hk e=>by
       rcases hm2o with ⟨e1,-⟩ | ⟨mb,l',e1,-,hH⟩
       · rw [e1] at hk;cases hk
       · rw [e1] at hk;cases hk;have:=hH.map.lt;have e:k=w32.heap.size:=e;omega)
     have hm2lt:∀ k,m2=some k→w17.heap.size≤k:=fun k hk=>by
       rcases hm2o with ⟨e1,-⟩ | ⟨mb,l',e1,h2,hH⟩
       · rw [e1] at hk;cases hk
       · rw [e1] at hk;cases hk;exact h2
     have hsl33:=hB.size;refine L.nil (thn_n (W.seq (W.region (L.val (x_mv (v:=.slice _ _ _) rfl) rfl ?_))));refine L.ret (x_call kwst_en43 rfl) rfl (apply_ok w17.heap.size (fun k=>w.heap.size≤k) _ 97 [] m2 G _ l _ bx5 hm2 hG (hs.carry hB) om_ (fun k hk=>by have:=hm2lt k hk;omega) om_) ?_;rintro _ w35 ⟨mb,lm,bx5,hnm,hH,hmm,hG35⟩;have hb:=hb.carryR hG35 (fun e=>by
       rcases e with e | e
       · omega
       · have:=hm2lt _ e.symm;omega)
     have hB:=hB.step hG35 (fun k hk e=>by
       rcases e with e | e
       · omega
       · have:=hm2lt _ e.symm;omega)
     have h:=h.bel hB;have hl:=hl.bel hB;have hst:=hst.carry hB;have hs:=hs.carry hB;have hn:=Nat.le_trans hn hB.size;have hGs:=comes_rises (l:=l) hG;have hcm:=may_comes hmay hml;have hB35:=hB;refine L.nil (thn_n (W.seq (W.drawD (fun _=>True) (fun _=>False) 7 kwst_mixed (fun wD36 hw=>?_))));have hB:=hB.carry hw;have hb:=hb.carry hw;have bx5:=bx5.carry hw;have hB0:=Gr.refl (fun _=>False) wD36;have hR0:=Gr.refl (fun _=>True) wD36;have h:=h.bel hw;have hl:=hl.bel hw;have hst:=hst.carry hw;have hs:=hs.carry hw;have hH:=hH.carry hw;have hn:=Nat.le_trans hn hw.size;refine LAD.take0 (i:=0) rfl kr_ kr_ kr_ kr_ (fun w hw=>x_mv (v:=.pointer _) rfl) rfl ?_;refine LAD.take0 (i:=1) rfl kr_ kr_ kr_ kr_ (fun w hw=>x_nil rfl) rfl ?_;refine LAD.take0 (i:=2) rfl kr_ kr_ kr_ kr_ (fun w hw=>x_fa kwst_fo100_1 rfl) rfl ?_;refine LAD.take1 (i:=3) rfl kr_ kr_ kr_ kr_ kr_ kr_ (fun w hw=>x_ld (v:=.pointer _) kwst_oc98 rfl (hw.keepR (fun e=>e) (hb.cell0 rfl))) rfl ?_;refine LAD.take0 (i:=4) rfl kr_ kr_ kr_ kr_ (fun w hw=>x_mv (v:=.slice _ _ _) rfl) rfl ?_;refine LAD.step (rs:=[5]) hR0 (fun _=>hB0) kr_ (by simp) ⟨⟨_,rfl,?_⟩,trivial⟩;refine L.ret (x_call kwst_en44 rfl) rfl (body_ok _ _ l _ (hs.carry hB0) om_ (by have:=mayL_body hml om_;omega)) ?_;rintro _ w41 ⟨rfl,hw⟩;have hB0:=hB0.carry hw;have hR0:=hR0.carry hw;have hb:=hb.carry hw;refine L.nil (thn_n (LAD.step (rs:=[6]) hR0 (fun _=>hB0) kr_ (by simp) ⟨⟨_,rfl,?_⟩,trivial⟩));refine L.bs (sz:=1) (cells:=[S (bodyB l)]) Tryz.underlying22 kwst_el9 rfl rfl rfl rfl (fun w42 bx42 hw hz42=>?_);have hB0:=hB0.carry hw;have hR0:=hR0.carry hw;have hb:=hb.carry hw;have hbS:StrsAt (fun _=>False) w42 (.slice (some ⟨w41.heap.size,0,none⟩) 1 1) [bodyB l]:=strs_new [bodyB l] bx42 (by simp) (fun x hx=>by rw [List.mem_singleton.1 hx];have:=mayL_body hml om_;omega);refine L.nil (thn_n (LAD.step (rs:=[7]) hR0 (fun _=>hB0) kr_ (by simp) ⟨⟨_,rfl,?_⟩,trivial⟩));refine L.ret (x_call kwst_en41 rfl) rfl (append_m n0 bl b _ _ [bodyB l] D K q _ (h.bel hB0) (hl.bel hB0) hq har hbS (Nat.le_trans hn hB0.size) (by simp [need];omega)) ?_;rintro _ w43 ⟨rfl,⟨K1,h43,hK1⟩,hl43,hg43⟩;have hG43:Dg lgTy n0 wD36 w43:=(Dg.of_bel hB0).trans hg43;have hG43w:Dg lgTy n0 w w43:=(Dg.of_bel hB).trans hG43;have hR0:=hR0.trans (Gr.mono hg43 (fun _ _ _=>trivial));have hb:=hb.dg hg43 rfl;have hst43:=hst.dg hG43;have bx543:=bx5.dg hG43 rfl;have hH43:HoldsM w43 mb lm (comes G l):=hH.dg hG43;refine L.nil (thn_n (LAD.take0 (i:=8) rfl kr_ kr_ kr_ kr_ (fun w hw=>x_as (v:=.int _ _) rfl) rfl ?_));refine LAD.done kr_ kr_ hR0 ?_;have hB:=Gr.refl (fun _=>False) w43;have bx5:=bx543;refine thn_n (W.cut (fun D' E' w'=>D'=[]∧E' 0=.pointer (some ⟨bs,0,none⟩)∧E' 5=.pointer (some ⟨w32.heap.size,0,none⟩)∧E' 6=.int .i64 (comM D K q G l).1∧(∃ K2,DiskF n0 w' b (comM D K q G l).2.1 K2∧((comM D K q G l).2.1.dead=false→K2=K))∧LogB n0 w' bl b (comM D K q G l).2.2 (comM D K q G l).2.1.dead∧StoAt n0 w' bs bl G∧Box w' bs 100 [.map m,.pointer (some ⟨bl,0,none⟩)]∧Box w' w32.heap.size 97 [.map (some mb)]∧HoldsM w' mb lm (comes G l)∧Dg lgTy n0 w w') ?_ ?_)
     ·refine W.seq (W.region (L.val (x_mv (v:=.int _ _) rfl) rfl ?_));refine L.val (x_eql rfl rfl) rfl ?_;refine L.nil (thn_n (W.cond (b:=_) rfl (fun g45=>?_) (fun g45=>?_)))
      ·have h45:=of_decide_eq_true g45;have h210:(appM D K q [bodyB l]).1=210:=by simpa using g45
       obtain ⟨h210a,h210b⟩:=appM_210 h210;rw [h210a] at h43 hl43 hK1;have hK1:=hK1 hdd;rw [hK1] at h43;rw [h210b] at hl43;have hl43:LogB n0 w43 bl b q false:=(show (D.dead=false) from hdd) ▸ hl43;have hr:comM D K q G l=turnM D K q (allB (snapL (comes G l))):=by unfold comM;rw [if_pos hml,if_neg hl0,if_pos h210]
       refine W.drawD (fun _=>True) (fun _=>False) 5 kwst_mixed (fun wD46 hw=>?_);have hB:=hB.carry hw;have hb:=hb.carry hw;have bx5:=bx5.carry hw;have hB0:=Gr.refl (fun _=>False) wD46;have hR0:=Gr.refl (fun _=>True) wD46;have h43:=h43.bel hw;have hl43:=hl43.bel hw;have hst43:=hst43.carry hw;have hH43:=hH43.carry hw;have hG43w:Dg lgTy n0 w wD46:=hG43w.trans (Dg.of_bel hw);have hn46:n0≤wD46.heap.size:=by have:=hG43w.size;omega
       refine LAD.take0 (i:=0) rfl kr_ kr_ kr_ kr_ (fun w hw=>x_mv (v:=.pointer _) rfl) rfl ?_;refine LAD.take0 (i:=1) rfl kr_ kr_ kr_ kr_ (fun w hw=>x_nil rfl) rfl ?_;refine LAD.take0 (i:=2) rfl kr_ kr_ kr_ kr_ (fun w hw=>x_fa kwst_fo100_1 rfl) rfl ?_;refine LAD.take1 (i:=3) rfl kr_ kr_ kr_ kr_ kr_ kr_ (fun w hw=>x_ld (v:=.pointer _) kwst_oc98 rfl (hw.keepR (fun e=>e) (hb.cell0 rfl))) rfl ?_;refine LAD.step (rs:=[4]) hR0 (fun _=>hB0) kr_ (by simp) ⟨⟨_,rfl,?_⟩,trivial⟩;refine L.ret (x_call kwst_en46 rfl) rfl (snapshot_ok (n0:=n0) (m:=some mb) _ (bx5.carry hB0) (.inr ⟨mb,lm,rfl,by omega,hH43.carry hB0⟩) hGs hcm hGl) ?_;rintro v50 w50 ⟨hv50,hw⟩;have hB0:=hB0.carry hw;have hR0:=hR0.carry hw;have hb:=hb.carry hw;have bx5:=bx5.carry hw;obtain ⟨p50,c50,rfl,-⟩:=id hv50;have hv50:=hv50.new;refine L.nil (thn_n (LAD.step (rs:=[5]) hR0 (fun _=>hB0) kr_ (by simp) ⟨⟨_,rfl,?_⟩,trivial⟩));refine L.ret (x_call kwst_en45 rfl) rfl (turn_m n0 bl b _ _ (allB (snapL (comes G l))) D K q _ (h43.bel hB0) (hl43.bel hB0) hq har hv50 (Nat.le_trans hn46 hB0.size) (hne hml)) ?_;rintro _ w51 ⟨rfl,h51,hl51,hg51⟩;have hG51:Dg lgTy n0 wD46 w51:=(Dg.of_bel hB0).trans hg51;have hG51w:Dg lgTy n0 w w51:=hG43w.trans hG51;have hR0:=hR0.trans (Gr.mono hg51 (fun _ _ _=>trivial));have hb:=hb.dg hg51 rfl;have hst51:=hst43.dg hG51;have bx5:=bx5.dg hg51 rfl;have hH51:HoldsM w51 mb lm (comes G l):=hH43.dg hG51;refine L.nil (thn_n (LAD.take0 (i:=6) rfl kr_ kr_ kr_ kr_ (fun w hw=>x_as (v:=.int _ _) rfl) rfl ?_));refine LAD.done kr_ kr_ hR0 ?_;have hB:=Gr.refl (fun _=>False) w51;refine thn_n ?_;exact ⟨rfl,rfl,rfl,congrArg (fun r:Int × Dk × Pt=>Value.int .i64 r.1) hr.symm,(by rw [hr];exact h51),(by rw [hr];exact hl51),hst51,hb,bx5,hH51,hG51w⟩
      ·have h45:=of_decide_eq_false g45;have h210:¬ (appM D K q [bodyB l]).1=210:=by simpa using g45
       have hr:comM D K q G l=appM D K q [bodyB l]:=by unfold comM;rw [if_pos hml,if_neg hl0,if_neg h210]
       refine W.skip (thn_n ?_);exact ⟨rfl,rfl,rfl,congrArg (fun r:Int × Dk × Pt=>Value.int .i64 r.1) hr.symm,(by rw [hr];exact ⟨K1,h43,hK1⟩),(by rw [hr];exact hl43),hst43,hb,bx5,hH43,hG43w⟩
     ·rintro D' E w52 ⟨rfl,e0,e5,e6,hD52,hl52,hst52,hb,bx5,hH52,hG52⟩;rw [upd_self e0,upd_self e5,upd_self e6];generalize hrr:comM D K q G l=r at *;refine W.seq (W.seq (W.region (L.val (x_mv (v:=.int _ _) rfl) rfl ?_)));refine L.val (x_eql rfl rfl) rfl ?_;refine L.nil (thn_n (W.cond (b:=_) rfl (fun g53=>?_) (fun g53=>?_)))
      ·have h53:=of_decide_eq_true g53;have h53:r.1=0:=by simpa using g53
       refine W.region (L.val (x_mv (v:=.pointer _) rfl) rfl ?_);refine L.val (x_ldn (vs:=_) kwst_ag97 rfl rfl (bx5.row rfl)) rfl ?_;refine L.val (x_nil rfl) rfl ?_;refine L.val (x_fa kwst_fo100_0 rfl) rfl ?_;refine L.setPart (o:=0) (k:=1) (new:=[.map (some mb)]) kwst_ag97 rfl rfl hb (by show 0+1≤2;omega) rfl (fun v hv=>by rw [List.mem_singleton.1 hv];rfl) (fun wl60 hbN hw hzl60=>?_);have hG60:Dg stTy n0 w wl60:=(Dg.mono hG52 st_of_lg).trans (hw.mono (fun k _ e=>by have e:k=bs:=e;rw [e];exact DkB.box hb kr_ hbs));have hl60:LogB n0 wl60 bl b r.2.2 r.2.1.dead:=⟨hl52.1,hl52.2.carryR hw (box_ne hl52.2 hb (by decide))⟩;have hD60:∃ K2,DiskF n0 wl60 b r.2.1 K2∧(r.2.1.dead=false→K2=K):=by obtain ⟨K2,hD,hK2⟩:=hD52;exact ⟨K2,hD.sto hb hw,hK2⟩
       have hst60:StoAt n0 wl60 bs bl (comes G l):=⟨some mb,hbs,hbN,.inr ⟨mb,lm,rfl,by omega,hH52.carryR hw (fun e=>by
         obtain ⟨es,ck,hes,-⟩:=hH52.map;have hbx:=hb;have e:mb=bs:=e;unfold Box at hbx;rw [← e,hes] at hbx;cases hbx)⟩⟩
       refine L.nil (thn_n (W.seq (W.region (L.val (x_mv (v:=.int _ _) rfl) rfl ?_))));refine L.val (x_as (v:=.int _ _) rfl) rfl ?_;refine L.nil (thn_n (W.ret (fin_mk (.inr rfl) ?_)));first
       | (rw [if_pos h53];exact ⟨rfl,hD60,hl60,hst60,hG60⟩)
       | (rw [if_neg h53];exact ⟨rfl,hD52,hl52,hst52,Dg.mono hG52 st_of_lg⟩)
      ·have h53:=of_decide_eq_false g53;have h53:¬ r.1=0:=by simpa using g53
       refine W.skip (thn_n (W.seq (W.region (L.val (x_mv (v:=.int _ _) rfl) rfl ?_))));refine L.val (x_as (v:=.int _ _) rfl) rfl ?_;refine L.nil (thn_n (W.ret (fin_mk (.inr rfl) ?_)));first
       | (rw [if_pos h53];exact ⟨rfl,hD60,hl60,hst60,hG60⟩)
       | (rw [if_neg h53];exact ⟨rfl,hD52,hl52,hst52,Dg.mono hG52 st_of_lg⟩)
end Go.Gx
namespace Go.Gx
open Go.Proofs Go.Sort
theorem kwsb_el9:elT Tryz.prog 9 1=true:=by kernel_rfl
theorem kwsb_en118:Go.Proofs.Enters Tryz.prog 118:=Go.Proofs.enters_of Tryz.func118 kr_ rfl
theorem kwsb_en119:Go.Proofs.Enters Tryz.prog 119:=Go.Proofs.enters_of Tryz.func119 kr_ rfl
theorem takeListG (s:Str) (a:Nat) (ha:a≤s.length) (hs:s.length≤1000000000) (w:World):
    Ret Tryz.prog 92 #[S s,.int .i64 (a:Nat)] w fun r w'=>(∃ u,r=.tuple #[u,.int .i64 ((takeList s a).2.1:Nat),.int .i64 (takeList s a).2.2]∧StrsAt (fun k=>k<w.heap.size) w' u (takeList s a).1)∧Bel w w':=by
  have hlt:=takeNum_lt s a;have hTL:takeList s a=if (takeNum s a).2.2≠0 then ([],0,(takeNum s a).2.2) else takeListF (takeNum s a).1 s (takeNum s a).2.1:=rfl
  refine ret_of_W Tryz.func92 rfl (Nat.le_of_ble_eq_true rfl) (res3 rfl) ?_;have hB:=Gr.refl (fun _=>False) w;refine W.seq (W.region (L.val (x_as (v:=.slice _ _ _) rfl) rfl ?_));refine L.val (x_as (v:=.int _ _) rfl) rfl ?_;refine L.val (x_as (v:=.int _ _) rfl) rfl ?_;refine L.nil (thn_n (W.seq (W.region (L.val (x_mv (v:=S _) rfl) rfl ?_))));refine L.val (x_mv (v:=.int _ _) rfl) rfl ?_;refine L.ret (x_call kwsb_en118 rfl) rfl (takeNum_ok s a ha hs _) ?_;rintro _ w16 ⟨rfl,hw⟩;have hB:=hB.carry hw;refine L.val (x_mv (v:=_) rfl) rfl ?_;(iterate 3 refine L.val (x_ext (v:=.int _ _) rfl rfl) rfl ?_);(iterate 3 refine L.val (x_as (v:=.int _ _) rfl) rfl ?_);refine L.nil (thn_n (W.seq (W.seq (W.region (L.val (x_mv (v:=.int _ _) rfl) rfl ?_)))));refine L.val (x_neq rfl rfl) rfl ?_;refine L.nil (thn_n (W.cond (b:=_) rfl (fun g21=>?_) (fun g21=>?_)))
  ·have h21:=dne_t g21;have he:(takeNum s a).2.2≠0:=h21;refine W.seq (W.region (L.val (x_mv (v:=.int _ _) rfl) rfl ?_));refine L.val (x_as (v:=.slice _ _ _) rfl) rfl ?_;refine L.val (x_as (v:=.int _ _) rfl) rfl ?_;refine L.val (x_as (v:=.int _ _) rfl) rfl ?_;refine L.nil (thn_n (W.ret (thn_r (fin_mk (.inr rfl) ?_))));rw [hTL,if_pos he];exact ⟨⟨_,rfl,StrsAt.nil _ _ _ _ om_⟩,hB⟩
  ·have h21:=dne_f g21;have he:(takeNum s a).2.2=0:=by simpa using h21
   obtain ⟨l1,l2,l3⟩:=takeNum_le he;rw [if_neg (by rw [he];decide)] at hTL;obtain ⟨n,hn⟩:∃ n,n=(takeNum s a).1:=⟨_,rfl⟩;obtain ⟨a0,ha0⟩:∃ a0,a0=(takeNum s a).2.1:=⟨_,rfl⟩;rw [← hn,← ha0] at hTL ⊢;rw [← hn] at hlt;have hm0:takeList s a=moreL [] (takeListF (n - 0) s a0):=by rw [hTL,Nat.sub_zero,moreL_nil]
   refine W.skip (thn_n (W.seq (W.region (L.val (x_as (v:=.slice _ _ _) rfl) rfl ?_))));refine L.nil (thn_n (W.seq (W.block (W.loop (fun m' E w'=>∃ (k at':Nat) (l:List Str) (vo:Value),m'=n - k∧E 0=S s∧E 1=.int .i64 (at':Nat)∧E 7=.int .u64 (n - k:Nat)∧E 9=vo∧(k≤n)∧(Bel w w')∧(Own w' w.heap.size 9 1 vo k (l.map S))∧(l.length=k)∧(takeList s a=moreL l (takeListF (n - k) s at'))∧(k≤at')∧(at'≤s.length)∧(∀ x∈l,x.length≤s.length)) (n) ?_ ?_))))
   ·exact ⟨0,_,[],.slice none 0 0,by omega,vi_,vi_,vi_,vi_,ao_,ao_,(by exact own_nil),ao_,(by exact hm0),ao_,ao_,(by simp)⟩
   ·rintro _ E wL23 ⟨k,at',l,vo,em,e0,e1,e7,e9,hk,hB,hO,hlk,hm,hka,hat,hx⟩;rw [upd_self e0,upd_self e1,upd_self e7,upd_self e9];refine W.seq (W.seq (W.region ?_));obtain ⟨av,cv,ev,-⟩:=own_shape hO;subst ev;have hql:=fun j hj=>Own.lt hO (j:=j) hj
    refine L.val (x_mv (v:=.int _ _) rfl) rfl ?_;refine L.val (x_gtr rfl rfl) rfl ?_;refine L.nil (thn_n (W.cond (b:=_) rfl (fun g24=>?_) (fun g24=>?_)))
    ·have h24:=of_decide_eq_true g24;have hlt2:k<n:=by omega
     have hnk:n - k=n - (k+1)+1:=by omega
     refine W.skip (thn_n (W.seq (W.block (W.seq (W.region (L.val (x_mv (v:=S _) rfl) rfl ?_))))));refine L.val (x_mv (v:=.int _ _) rfl) rfl ?_;refine L.ret (x_call kwsb_en119 rfl) rfl (takeText_ok s at' hat hs _) ?_;rintro _ w30 ⟨rfl,hw⟩;have hB:=hB.carry hw;have hO:=hO.carry hw;have hsB:=hB.size;refine L.val (x_mv (v:=_) rfl) rfl ?_;refine L.val (x_ext (v:=S _) rfl rfl) rfl ?_;refine L.val (x_ext (v:=.int _ _) rfl rfl) rfl ?_;refine L.val (x_ext (v:=.int _ _) rfl rfl) rfl ?_;refine L.val (x_as (v:=S _) rfl) rfl ?_;refine L.val (x_as (v:=.int _ _) rfl) rfl ?_;refine L.val (x_as (v:=.int _ _) rfl) rfl ?_;refine L.nil (thn_n (W.seq (W.seq (W.region (L.val (x_mv (v:=.int _ _) rfl) rfl ?_)))));refine L.val (x_neq rfl rfl) rfl ?_;refine L.nil (thn_n (W.cond (b:=_) rfl (fun g35=>?_) (fun g35=>?_)))
     ·have h35:=dne_t g35;have hf:(takeText s at').2.2≠0:=h35;rw [hnk,takeListF_fail hf] at hm;unfold moreL at hm;rw [if_pos hf] at hm;refine W.seq (W.region (L.val (x_mv (v:=.int _ _) rfl) rfl ?_));refine L.val (x_as (v:=.slice _ _ _) rfl) rfl ?_;refine L.val (x_as (v:=.int _ _) rfl) rfl ?_;refine L.val (x_as (v:=.int _ _) rfl) rfl ?_;refine L.nil (thn_n (W.ret (thn_r (blk_r (thn_r (thn_r (blk_r (thn_r (fin_mk (.inr rfl) ?_)))))))));rw [hm];exact ⟨⟨_,rfl,StrsAt.nil _ _ _ _ om_⟩,hB⟩
     ·have h35:=dne_f g35;have hf:(takeText s at').2.2=0:=by simpa using h35
      obtain ⟨n1,n2,n3⟩:=takeText_le hf;have hm2:takeList s a=moreL (l++[(takeText s at').1]) (takeListF (n - (k+1)) s (takeText s at').2.1):=by rw [hm,hnk,moreL_step hf]
      have hx2:∀ x∈l++[(takeText s at').1],x.length≤s.length:=fun x h=>by
        rcases List.mem_append.1 h with h | h
        · exact hx x h
        · rw [List.mem_singleton.1 h];exact takeText_len _ _
      refine W.skip (thn_n (W.region (L.val (x_mv (v:=.slice _ _ _) rfl) rfl ?_)));refine L.val (x_mv (v:=S _) rfl) rfl ?_;refine L.bs (sz:=1) (cells:=[S (takeText s at').1]) Tryz.underlying22 kwsb_el9 rfl rfl rfl rfl (fun w39 bx39 hw hz39=>?_);have hB:=hB.carry hw;have hO:=hO.carry hw;refine L.appendN (m:=1) Tryz.underlying22 kwsb_el9 rfl rfl rfl hO rfl (holdsN_box bx39) (by simp [Value.oneCell',S]) om_ om_ (fun v40 w40 hO40 hg hob40=>?_);obtain ⟨a40,c40,e40,-⟩:=own_shape hO40;subst e40;have hB:=hB.step hg (fun i hi e=>by have:=(Own.lt hO e).1;omega);have hO2:Own w40 w.heap.size 9 1 (.slice a40 (k+1) c40) (k+1) ((l++[(takeText s at').1]).map S):=by
        rw [List.map_append];exact hO40
      refine L.val (x_mv (v:=.int _ _) rfl) rfl ?_;refine L.val (x_as (v:=.slice _ _ _) rfl) rfl ?_;refine L.val (x_as (v:=.int _ _) rfl) rfl ?_;refine L.nil (blk_n (thn_n (W.region (L.val (x_mv (v:=.int _ _) rfl) rfl ?_))));refine L.val (x_sub (c:=((n - (k+1):Nat):Int)) rfl rfl (by rw [wru64 om_];omega)) rfl ?_;refine L.val (x_as (v:=.int _ _) rfl) rfl ?_;refine L.nil (thn_n ⟨rfl,?_⟩);refine ⟨_,?_,k+1,_,_,_,rfl,vi_,vi_,vi_,vi_,ao_,ao_,(by exact hO2),(by rw [List.length_append,hlk];rfl),(by exact hm2),ao_,ao_,(by exact hx2)⟩;omega
    ·have h24:=dlt_f g24;have hke:k=n:=by omega
     rw [hke,Nat.sub_self,takeListF] at hm;unfold moreL at hm;rw [if_neg (by simp)] at hm;refine W.exit (thn_x (thn_x (blk_hit ?_)));refine thn_n (W.seq (W.region (L.val (x_mv (v:=.slice _ _ _) rfl) rfl ?_)));refine L.val (x_mv (v:=.int _ _) rfl) rfl ?_;refine L.val (x_as (v:=.slice _ _ _) rfl) rfl ?_;refine L.val (x_as (v:=.int _ _) rfl) rfl ?_;refine L.val (x_as (v:=.int _ _) rfl) rfl ?_;refine L.nil (thn_n (W.ret (fin_mk (.inr rfl) ?_)));rw [hm];refine ⟨⟨_,rfl,?_⟩,hB⟩;rw [List.append_nil];exact strs_done (by rw [hlk];exact hO) (show l.length≤_ by omega) (fun x h=>by have:=hx x h;omega) (fun j hj=>by omega)
theorem trip_good:∀ (l:List Str),(∀ k,3 * k+2<l.length→l.getD (3 * k+1) []=[86]∨l.getD (3 * k+1) []=[71])→l.length % 3=0→trip l=some (outT l)
  | [],_,_=>rfl
  | [_],_,h=>by simp at h
  | [_,_],_,h=>by simp at h
  | k :: m :: v :: r,h,h3=>by
    have hm:m=[86]∨m=[71]:=h 0 (by simp only [List.length_cons];omega);have hr:=trip_good r (fun j hj=>by
      have:=h (j+1) (by simp only [List.length_cons];omega);rw [show 3 * (j+1)+1=(3 * j+1)+1+1+1 by omega] at this;simpa using this) (by simp only [List.length_cons] at h3;omega)
    rw [trip,if_pos hm,hr];rfl
theorem trip_bad:∀ (l:List Str) (k:Nat),3 * k+2<l.length→¬ (l.getD (3 * k+1) []=[86]∨l.getD (3 * k+1) []=[71])→trip l=none
  | a :: m :: c :: r,0,_,h=>by
    have h:¬ (m=[86]∨m=[71]):=h;rw [trip,if_neg h]
  | [],k,h,_=>by simp at h
  | [_],k,h,_=>absurd h (by simp)
  | [_,_],k,h,_=>absurd h (by simp only [List.length_cons,List.length_nil];omega)
  | a :: m :: c :: r,k+1,h,hb=>by
    have hr:=trip_bad r k (by simp only [List.length_cons] at h;omega) (by
      rw [show 3 * (k+1)+1=(3 * k+1)+1+1+1 by omega] at hb;simpa using hb)
    rw [trip,hr];split <;> rfl
theorem trip_mod {l:List Str} (h:l.length % 3≠0):trip l=none:=by
  cases ht:trip l with
  | none=>rfl
  | some x=>exact absurd (trip_out l x ht).2.2 h
end Go.Gx
