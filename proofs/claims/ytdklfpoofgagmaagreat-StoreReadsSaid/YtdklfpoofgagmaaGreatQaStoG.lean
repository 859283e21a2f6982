/- A store's Commit and Compact, through falls. Conditions: none. -/
import Derived.Test.YtdklfpoofgagmaaGreatQaWaf3
import Derived.Test.YtdklfpoofgagmaaGreatQaRf12
namespace Go.Gx
open Go.Proofs Go.Sort
theorem kstog_ag97:aggT Tryz.prog 97 1=true:=by kernel_rfl
theorem kstog_el9:elT Tryz.prog 9 1=true:=by kernel_rfl
theorem kstog_en40:Go.Proofs.Enters Tryz.prog 40:=Go.Proofs.enters_of Tryz.func40 kr_ rfl
theorem kstog_en41:Go.Proofs.Enters Tryz.prog 41:=Go.Proofs.enters_of Tryz.func41 kr_ rfl
theorem kstog_en42:Go.Proofs.Enters Tryz.prog 42:=Go.Proofs.enters_of Tryz.func42 kr_ rfl
theorem kstog_en43:Go.Proofs.Enters Tryz.prog 43:=Go.Proofs.enters_of Tryz.func43 kr_ rfl
theorem kstog_en44:Go.Proofs.Enters Tryz.prog 44:=Go.Proofs.enters_of Tryz.func44 kr_ rfl
theorem kstog_en45:Go.Proofs.Enters Tryz.prog 45:=Go.Proofs.enters_of Tryz.func45 kr_ rfl
theorem kstog_en46:Go.Proofs.Enters Tryz.prog 46:=Go.Proofs.enters_of Tryz.func46 kr_ rfl
theorem kstog_fo100_0:fieldOff Tryz.prog 100 0=some 0:=by kernel_rfl
theorem kstog_fo100_1:fieldOff Tryz.prog 100 1=some 1:=by kernel_rfl
theorem kstog_fo97_0:fieldOff Tryz.prog 97 0=some 0:=by kernel_rfl
theorem kstog_mixed:Tryz.prog.follows .mixedOrders=true:=by kernel_rfl
theorem kstog_oc95:oneCellT Tryz.prog 95=true:=by kernel_rfl
theorem kstog_oc98:oneCellT Tryz.prog 98=true:=by kernel_rfl
theorem kstog_si97:structInfo Tryz.prog 97=some ([(0,1)],[Value.map none]):=by kernel_rfl
theorem kstog_zr97:(Tryz.prog.info? 97).bind (·.zero)=some (Value.agg [Value.map none].toArray):=by kernel_rfl
def stTy (T:TypeId):Bool:=lgTy T || T == 100
theorem st_of_lg (T:TypeId) (h:lgTy T=true):stTy T=true:=by unfold stTy;rw [h];rfl
def comS (D:Dk) (K K1:Fl) (q:Pt) (G l:List Ed):Int × Dk × Pt:=
  if mayL l=true then (if l=[] then (0,D,q) else if (appF D K q [bodyB l]).1=210 then turnF D K1 q (allB (snapL (comes G l))) else appF D K q [bodyB l]) else (230,D,q)
theorem appF_210 {D:Dk} {K:Fl} {q:Pt} {l:List Str} (h:(appF D K q l).1=210):(appF D K q l).2.1=D∧(appF D K q l).2.2=q:=by
  unfold appF at h ⊢;split
  · rename_i h1
    rw [if_pos h1] at h;split
    · exact ⟨rfl,rfl⟩
    · rename_i h2
      rw [if_neg h2] at h;unfold outF at h;dsimp only at h;split at h <;> exact absurd h (by decide)
  · exact ⟨rfl,rfl⟩
theorem StoAt.dg {n0 n1 bs bl:Nat} {w w':World} {G:List Ed} (h:StoAt n0 w bs bl G) (g:Dg lgTy n1 w w'):StoAt n0 w' bs bl G:=by
  obtain ⟨m,h1,h2,h3⟩:=h;refine ⟨m,h1,h2.dg g rfl,h3.carryR g (fun k hk e=>?_)⟩;rcases h3 with ⟨e1,-⟩ | ⟨mb,l',e1,-,hH⟩
  · rw [e1] at hk;cases hk
  · rw [e1] at hk;cases hk;obtain ⟨-,cs,T,m',he,-⟩:=e;obtain ⟨es,ck',hes,-⟩:=hH.map;rw [hes] at he;cases he
theorem MapHas.dg {ty:TypeId→Bool} {n0 n1:Nat} {w w':World} {m:Option Nat} {G:List Ed} (h3:MapHas n0 w m G) (g:Dg ty n1 w w'):MapHas n0 w' m G:=by
  refine h3.carryR g (fun k hk e=>?_);rcases h3 with ⟨e1,-⟩ | ⟨mb,l',e1,-,hH⟩
  · rw [e1] at hk;cases hk
  · rw [e1] at hk;cases hk;obtain ⟨-,cs,T,m',he,-⟩:=e;obtain ⟨es,ck',hes,-⟩:=hH.map;rw [hes] at he;cases he
theorem HoldsM.dg {ty:TypeId→Bool} {n1:Nat} {w w':World} {mb:Nat} {l:List (Str × Value)} {G:List Ed} (hH:HoldsM w mb l G) (g:Dg ty n1 w w'):HoldsM w' mb l G:=hH.carryR g (fun e=>by
  obtain ⟨-,cs,T,m',he,-⟩:=e;obtain ⟨es,ck',hes,-⟩:=hH.map;rw [hes] at he;cases he)
theorem clone_has (n0:Nat) (m:Option Nat) (G:List Ed) (w:World) (h:MapHas n0 w m G):Ret Tryz.prog 42 #[.map m] w fun v w'=>(∃ m',v=.map m'∧MapHas w.heap.size w' m' G)∧Bel w w':=by
  rcases h with ⟨rfl,rfl⟩ | ⟨mb,l,rfl,-,hH⟩
  · exact (clone_none w).mono fun v w' ⟨h1,h2⟩=>⟨⟨none,h1,.inl ⟨rfl,rfl⟩⟩,by rw [h2];exact Gr.refl _ _⟩
  · exact (clone_map mb l w hH.map).mono fun v w' ⟨⟨h1,h2⟩,h3⟩=>⟨⟨_,h1,.inr ⟨_,l,rfl,Nat.le_refl _,⟨h2,hH.get⟩⟩⟩,h3⟩
theorem mayL_body {l:List Ed} (h:mayL l=true) (hn:l.length≤1000000):(bodyB l).length≤9+l.length * 8300:=by
  have h1:∀ l:List Ed,mayL l=true→((bodyL l).map textB).flatten.length≤l.length * 8300:=fun l=>by
    induction l with
    | nil=>intro _;exact Nat.le_refl _
    | cons e l ih=>
      intro hm;unfold mayL at hm;rw [List.all_cons,Bool.and_eq_true] at hm;have ih:=ih hm.2;obtain ⟨a1,a2⟩:=mayE_len hm.1;have e1:bodyL (e :: l)=e.key :: (if e.gone then [71] else [86]) :: e.val :: bodyL l:=rfl;have a3:=numB_le (n:=e.key.length) om_;have a4:=numB_le (n:=e.val.length) om_;have a5:=numB_le (n:=1) om_;have a6:(if e.gone then ([71]:Str) else [86]).length=1:=by split <;> rfl
      rw [e1];simp only [List.map_cons,List.flatten_cons,List.length_append,textB,a6,List.length_cons];omega
  have h2:=h1 l h;have h3:(numB (bodyL l).length).length≤9:=by
    unfold numB;split
    · simp
    · simp only [List.length_cons,beN_len];have:=bodyL_len l;unfold widN;have hb:Lib.bitLen (bodyL l).length≤64:=Lib.bitLen_le _ 64 om_ om_;omega
  unfold bodyB listB;rw [List.length_append];omega
theorem DiskF.sto {n0 b bs:Nat} {w w':World} {D:Dk} {K:Fl} {m:Option Nat} {p:Option Addr} (h:DiskF n0 w b D K) (hb:Box w bs 100 [.map m,.pointer p]) (g:Gr (fun k=>k=bs) w w'):DiskF n0 w' b D K:=by
  obtain ⟨h1,h2,bp,vc,vk,h3,h4,h5,h6,h7⟩:=h;refine ⟨h1,h2,bp,vc,vk,h3,h4.carryR g (box_ne h4 hb (by decide)),?_,h6.carryR g (box_ne h6 hb (by decide)),Own.carryR h7 g fun j hj e=>?_⟩
  · obtain ⟨pk,cap,e,a1,a2,a3,a4⟩:=h5;refine ⟨pk,cap,e,a1,a2,a3,fun hl=>?_⟩;obtain ⟨kb,ko,hp,hA,hcell⟩:=a4 hl;have hne:kb≠bs:=fun e=>by
      have hc0:=hcell 0 (List.length_pos_iff.2 hl);subst e;have hbx:=hb;unfold Box at hbx;unfold World.cell? at hc0;simp only [hbx,Nat.add_zero] at hc0;rcases ko with _ | _ | ko <;> simp at hc0
    have hblk:w'.heap[kb]? = w.heap[kb]? := g.block kb (World.block_lt_of_cell? w _ (hcell 0 (List.length_pos_iff.2 hl))) hne;exact ⟨kb,ko,hp,fun ⟨d1,cs,T,m',d2,d3⟩=>hA ⟨d1,cs,T,m',by rw [← hblk];exact d2,d3⟩,fun i hi=>g.cell (hcell i hi) hne⟩
  · have e:j=bs:=e;subst e;exact own_box_ne h7 hb (by decide) hj
theorem alF_nil (D:Dk) (K:Fl) (q:Pt):appF D K q []=(0,D,q):=by
  unfold appF;rw [if_neg (fun e=>e.2 rfl)];rfl
theorem compact_s (n0 bs bl b:Nat) (D:Dk) (K:Fl) (q:Pt) (G:List Ed) (w:World) (h:DiskF n0 w b D K) (hl:LogB n0 w bl b q false) (hq:QOk (una D) q) (har:D.armed≤9223372036854775807) (hst:StoAt n0 w bs bl G) (hG:Rises G) (hmay:mayL G=true) (hn:n0≤w.heap.size) (hGl:G.length≤1000000) (hne:need (allB (snapL G))≤10000000):
    Ret Tryz.prog 17 #[.pointer (some ⟨bs,0,none⟩)] w fun v w'=>v=.int .i64 (turnF D K q (allB (snapL G))).1∧(∃ K2,DiskF n0 w' b (turnF D K q (allB (snapL G))).2.1 K2)∧LogB n0 w' bl b (turnF D K q (allB (snapL G))).2.2 (turnF D K q (allB (snapL G))).2.1.dead∧StoAt n0 w' bs bl G∧Dg stTy n0 w w':=by
  obtain ⟨m,hbs,hb,hm⟩:=id hst;refine ret_of_W Tryz.func17 rfl (Nat.le_of_ble_eq_true rfl) (res1 rfl) ?_;refine W.seq (W.region (L.val (x_as (v:=.int _ _) rfl) rfl ?_));refine L.nil (thn_n (W.seq (W.seq (W.region (L.val (x_mv (v:=.pointer _) rfl) rfl ?_)))));refine L.val (x_eqp0 Tryz.underlying40 rfl rfl) rfl ?_;refine L.val (x_mv (v:=.bool _) rfl) rfl ?_;refine' L.group0 5 6 10 10 5 false rfl ?_ ?_ ?_;rotate_left 1
  ·intro g5;have h5:=g5;refine L.gyes' (dj:=5) (b:=_) rfl rfl g5 ?_;refine L.val (x_mv (v:=.pointer _) rfl) rfl ?_;refine L.gyes' (dj:=5) (b:=_) rfl rfl g5 ?_;refine L.val (x_nil rfl) rfl ?_;refine L.gyes' (dj:=5) (b:=_) rfl rfl g5 ?_;refine L.val (x_fa kstog_fo100_1 rfl) rfl ?_;refine L.gyes' (dj:=5) (b:=_) rfl rfl g5 ?_;refine L.val (x_ld (v:=.pointer _) kstog_oc98 rfl (hb.cell0 rfl)) rfl ?_;refine L.gyes' (dj:=5) (b:=_) rfl rfl g5 ?_;refine L.val (x_eqp0 Tryz.underlying98 rfl rfl) rfl ?_;refine L.nil (thn_n ⟨rfl,rfl,?_,rfl⟩);repeat (first | exact jeq.refl _ _ _ | refine jeq.upd rfl ?_ | refine jeq.jk rfl rfl ?_)
  ·intro g5;(iterate 5 refine L.gno (dj:=5) (b:=_) rfl rfl g5 rfl ?_);refine L.nil (thn_n ⟨rfl,rfl,?_⟩);repeat (first | exact jeq.refl _ _ _ | refine jeq.upd rfl ?_ | refine jeq.jk rfl rfl ?_)
  intro J5 j5;refine L.val (x_or rfl j5) rfl ?_;refine L.nil (thn_n (W.cond (b:=_) rfl (fun g11=>?_) (fun g11=>?_)))
  ·have h11:=g11;cases g11
  ·have h11:=g11;refine W.skip (thn_n (W.seq (W.drawD (fun _=>True) (fun _=>False) 8 kstog_mixed (fun wD12 hw=>?_))));have hB0:=Gr.refl (fun _=>False) wD12;have hR0:=Gr.refl (fun _=>True) wD12;have hb:=hb.carry hw;have hm:=hm.carry hw;have h:=h.bel hw;have hl:=hl.bel hw;have hst:=hst.carry hw;have hG0:Dg lgTy n0 w wD12:=Dg.of_bel hw;have hn:=Nat.le_trans hn hw.size;refine LAD.take0 (i:=0) rfl kr_ kr_ kr_ kr_ (fun w hw=>x_mv (v:=.pointer _) rfl) rfl ?_;refine LAD.take0 (i:=1) rfl kr_ kr_ kr_ kr_ (fun w hw=>x_nil rfl) rfl ?_;refine LAD.take0 (i:=2) rfl kr_ kr_ kr_ kr_ (fun w hw=>x_fa kstog_fo100_1 rfl) rfl ?_;refine LAD.take1 (i:=3) rfl kr_ kr_ kr_ kr_ kr_ kr_ (fun w hw=>x_ld (v:=.pointer _) kstog_oc98 rfl (hw.keepR (fun e=>e) (hb.cell0 rfl))) rfl ?_;refine LAD.take0 (i:=4) rfl kr_ kr_ kr_ kr_ (fun w hw=>x_mv (v:=.pointer _) rfl) rfl ?_;refine LAD.take0 (i:=5) rfl kr_ kr_ kr_ kr_ (fun w hw=>x_nil rfl) rfl ?_;refine LAD.take0 (i:=6) rfl kr_ kr_ kr_ kr_ (fun w hw=>x_fa kstog_fo100_0 rfl) rfl ?_;refine LAD.step (rs:=[7]) hR0 (fun _=>hB0) kr_ (by simp) ⟨⟨_,rfl,?_⟩,trivial⟩;refine L.ret (x_call kstog_en46 rfl) rfl (snapshot_ok _ (hb.carry hB0) (hm.carry hB0) hG hmay hGl) ?_;rintro v19 w19 ⟨hv19,hw⟩;have hB0:=hB0.carry hw;have hR0:=hR0.carry hw;have hb:=hb.carry hw;obtain ⟨p19,c19,rfl,-⟩:=id hv19;have hv19:=hv19.new;refine L.nil (thn_n (LAD.step (rs:=[8]) hR0 (fun _=>hB0) kr_ (by simp) ⟨⟨_,rfl,?_⟩,trivial⟩));refine L.ret (x_call kstog_en45 rfl) rfl (turn_f n0 bl b _ _ (allB (snapL G)) D K q _ (h.bel hB0) (hl.bel hB0) hq har hv19 (Nat.le_trans hn hB0.size) hne) ?_;rintro _ w20 ⟨rfl,h20,hl20,hg20⟩;have hG20d:Dg lgTy n0 wD12 w20:=(Dg.of_bel hB0).trans hg20;have hst20:=hst.dg hG20d;have hG20:=hG0.trans hG20d;have hR0:=hR0.trans (Gr.mono hg20 (fun _ _ _=>trivial));have hb:True:=trivial;refine L.nil (thn_n (LAD.take0 (i:=9) rfl kr_ kr_ kr_ kr_ (fun w hw=>x_as (v:=.int _ _) rfl) rfl ?_));refine LAD.done kr_ kr_ hR0 ?_;refine thn_n (W.ret (fin_mk (.inr rfl) ?_));exact ⟨rfl,h20,hl20,hst20,Dg.mono hG20 st_of_lg⟩
theorem commit_s (n0 bs bl b:Nat) (A:Nat→Prop) (v:Value) (l:List Ed) (D:Dk) (K:Fl) (q:Pt) (G:List Ed) (w:World) (h:DiskF n0 w b D K) (hl:LogB n0 w bl b q false) (hq:QOk (una D) q) (har:D.armed≤9223372036854775807) (hst:StoAt n0 w bs bl G) (hG:Rises G) (hmay:mayL G=true) (hs:EdsAt A w v l) (hn:n0≤w.heap.size)
    (hln:l.length≤10000) (hGl:(comes G l).length≤1000000) (hne:mayL l=true→need (allB (snapL (comes G l)))≤10000000):
    Ret Tryz.prog 15 #[.pointer (some ⟨bs,0,none⟩),v] w fun v w'=>∃ K1,v=.int .i64 (comS D K K1 q G l).1∧(∃ K2,DiskF n0 w' b (comS D K K1 q G l).2.1 K2)∧LogB n0 w' bl b (comS D K K1 q G l).2.2 (comS D K K1 q G l).2.1.dead∧StoAt n0 w' bs bl (if (comS D K K1 q G l).1=0 then comes G l else G)∧Dg stTy n0 w w':=by
  obtain ⟨m,hbs,hb,hm⟩:=id hst;have hs:=(hs.up).mono (A':=fun k=>w.heap.size≤k) (fun _ _ hk=>.inr hk);obtain ⟨pv,cv,row,rfl,-⟩:=id hs;have hdd:D.dead=false:=hq.live;have hbl:=hb.lt;refine ret_of_W Tryz.func15 rfl (Nat.le_of_ble_eq_true rfl) (res1 rfl) ?_;have hB:=Gr.refl (fun _=>False) w;refine W.seq (W.region (L.val (x_as (v:=.int _ _) rfl) rfl ?_));refine L.nil (thn_n (W.seq (W.seq (W.region (L.val (x_mv (v:=.pointer _) rfl) rfl ?_)))));refine L.val (x_eqp0 Tryz.underlying40 rfl rfl) rfl ?_;refine L.val (x_mv (v:=.bool _) rfl) rfl ?_;refine' L.group0 5 10 14 14 9 false rfl ?_ ?_ ?_;rotate_left 1
  ·intro g9;have h9:=g9;refine L.gyes' (dj:=9) (b:=_) rfl rfl g9 ?_;refine L.val (x_mv (v:=.pointer _) rfl) rfl ?_;refine L.gyes' (dj:=9) (b:=_) rfl rfl g9 ?_;refine L.val (x_nil rfl) rfl ?_;refine L.gyes' (dj:=9) (b:=_) rfl rfl g9 ?_;refine L.val (x_fa kstog_fo100_1 rfl) rfl ?_;refine L.gyes' (dj:=9) (b:=_) rfl rfl g9 ?_;refine L.val (x_ld (v:=.pointer _) kstog_oc98 rfl (hb.cell0 rfl)) rfl ?_;refine L.gyes' (dj:=9) (b:=_) rfl rfl g9 ?_;refine L.val (x_eqp0 Tryz.underlying98 rfl rfl) rfl ?_;refine L.nil (thn_n ⟨rfl,rfl,?_,rfl⟩);repeat (first | exact jeq.refl _ _ _ | refine jeq.upd rfl ?_ | refine jeq.jk rfl rfl ?_)
  ·intro g9;(iterate 5 refine L.gno (dj:=9) (b:=_) rfl rfl g9 rfl ?_);refine L.nil (thn_n ⟨rfl,rfl,?_⟩);repeat (first | exact jeq.refl _ _ _ | refine jeq.upd rfl ?_ | refine jeq.jk rfl rfl ?_)
  intro J9 j9;refine L.val (x_or rfl j9) rfl ?_;refine L.nil (thn_n (W.cond (b:=_) rfl (fun g15=>?_) (fun g15=>?_)))
  ·have h15:=g15;cases g15
  ·have h15:=g15;refine W.skip (thn_n (W.seq (W.seq (W.region (L.val (x_mv (v:=.slice _ _ _) rfl) rfl ?_)))));refine L.ret (x_call kstog_en40 rfl) rfl (may_ok _ _ l _ (hs.carry hB)) ?_;rintro _ w17 ⟨rfl,hw⟩;have hB:=hB.carry hw;have hb:=hb.carry hw;refine L.val (x_not rfl) rfl ?_;refine L.nil (thn_n (W.cond (b:=_) rfl (fun g18=>?_) (fun g18=>?_)))
   ·have h18:=(not_t g18);have hml:¬ mayL l=true:=by simpa using g18
    have hr:comS D K K q G l=(230,D,q):=by unfold comS;rw [if_neg hml]
    refine W.seq (W.region (L.val (x_as (v:=.int _ _) rfl) rfl ?_));refine L.nil (thn_n (W.ret (thn_r (fin_mk (.inr rfl) ?_))));refine ⟨K,?_⟩;rw [hr];dsimp only;rw [if_neg (by decide)];exact ⟨rfl,⟨K,h.bel hB⟩,(show (D.dead=false) from hdd) ▸ hl.bel hB,hst.carry hB,Dg.of_bel hB⟩
   ·have h18:=(not_f g18);have hml:mayL l=true:=by simpa using g18
    refine W.skip (thn_n (W.seq (W.seq (W.region (L.val (x_mv (v:=.slice _ _ _) rfl) rfl ?_)))));refine L.val (x_len_slice Tryz.underlying31 rfl) rfl ?_;refine L.val (x_eql rfl rfl) rfl ?_;refine L.nil (thn_n (W.cond (b:=_) rfl (fun g21=>?_) (fun g21=>?_)))
    ·have h21:=of_decide_eq_true g21;have hl0:l=[]:=List.eq_nil_of_length_eq_zero om_;have hr:comS D K K q G l=(0,D,q):=by unfold comS;rw [if_pos hml,if_pos hl0]
     have hap:=append_f n0 bl b (fun _=>False) (.slice none 0 0) [] D K q;rw [alF_nil] at hap;have hcG:comes G l=G:=by rw [hl0];rfl
     refine W.seq (W.region (L.val (x_mv (v:=.pointer _) rfl) rfl ?_));refine L.val (x_nil rfl) rfl ?_;refine L.val (x_fa kstog_fo100_1 rfl) rfl ?_;refine L.val (x_ld (v:=.pointer _) kstog_oc98 rfl (hb.cell0 rfl)) rfl ?_;refine L.ret (x_call kstog_en41 rfl) rfl (hap _ (h.bel hB) (hl.bel hB) hq har (StrsAt.nil _ _ _ _ om_) (Nat.le_trans hn hB.size) (by decide)) ?_;rintro _ w26 ⟨rfl,h26,hl26,hg26⟩;refine L.val (x_as (v:=.int _ _) rfl) rfl ?_;refine L.nil (thn_n (W.ret (thn_r (fin_mk (.inr rfl) ?_))));refine ⟨K,?_⟩;rw [hr];dsimp only;rw [if_pos rfl,hcG];have hG26:Dg lgTy n0 w w26:=(Dg.of_bel hB).trans hg26;exact ⟨rfl,h26,(show (D.dead=false) from hdd) ▸ hl26,hst.dg hG26,Dg.mono hG26 st_of_lg⟩
    ·have h21:=of_decide_eq_false g21;have hl0:¬ l=[]:=fun e=>h21 (by rw [e];rfl)
     refine W.skip (thn_n (W.seq (W.region (L.val (x_mv (v:=.pointer _) rfl) rfl ?_))));refine L.val (x_nil rfl) rfl ?_;refine L.val (x_fa kstog_fo100_0 rfl) rfl ?_;refine L.val (x_fa kstog_fo97_0 rfl) rfl ?_;have hs17:=hB.size;refine L.val (x_ld (v:=.map _) kstog_oc95 rfl (hb.cell0 rfl)) rfl ?_;refine L.ret (x_call kstog_en42 rfl) rfl (clone_has n0 m G _ (hm.carry hB)) ?_;rintro v32 w32 ⟨⟨m2,rfl,hm2⟩,hw⟩;have hB:=hB.carry hw;have hb:=hb.carry hw;have hs32:=hB.size;have hs1732:=hw.size;refine L.val (x_build (cells:=[.map _]) kstog_si97 rfl rfl) rfl ?_;have hm2o:=hm2;refine L.alloc (cs:=[Value.map none]) kstog_zr97 rfl rfl (fun w5 bx5 hw hz5=>?_);have hB:=hB.carry hw;have hb:=hb.carry hw;have hw5:=hw;have hs325:=hw.size;refine L.setRow kstog_ag97 rfl rfl bx5 rfl rfl (fun v hv=>by rw [List.mem_singleton.1 hv];rfl) (fun wl33 bx5 hw hzl33=>?_);have hsz:=hB.size;have hB:=hB.set hw om_;have hb:=hb.carryR hw (fun e=>by have e:bs=w32.heap.size:=e;omega);have hm2:MapHas w17.heap.size wl33 m2 G:=(hm2o.carry hw5).carryR hw (fun k hk e=>by
       rcases hm2o with ⟨e1,-⟩ | ⟨mb,l',e1,-,hH⟩
       · rw [e1] at hk;cases hk
       · rw [e1] at hk;cases hk;have:=hH.map.lt;have e:k=w32.heap.size:=e;omega)
     have hm2lt:∀ k,m2=some k→w17.heap.size≤k:=fun k hk=>by
       rcases hm2o with ⟨e1,-⟩ | ⟨mb,l',e1,h2,hH⟩
       · rw [e1] at hk;cases hk
       · rw [e1] at hk;cases hk;exact h2
     have hsl33:=hB.size;refine L.nil (thn_n (W.seq (W.region (L.val (x_mv (v:=.slice _ _ _) rfl) rfl ?_))));refine L.ret (x_call kstog_en43 rfl) rfl (apply_ok w17.heap.size (fun k=>w.heap.size≤k) _ 97 [] m2 G _ l _ bx5 hm2 hG (hs.carry hB) om_ (fun k hk=>by have:=hm2lt k hk;omega) om_) ?_;rintro _ w35 ⟨mb,lm,bx5,hnm,hH,hmm,hG35⟩;have hb:=hb.carryR hG35 (fun e=>by
       rcases e with e | e
       · omega
       · have:=hm2lt _ e.symm;omega)
     have hB:=hB.step hG35 (fun k hk e=>by
       rcases e with e | e
       · omega
       · have:=hm2lt _ e.symm;omega)
     have h:=h.bel hB;have hl:=hl.bel hB;have hst:=hst.carry hB;have hs:=hs.carry hB;have hn:=Nat.le_trans hn hB.size;have hGs:=comes_rises (l:=l) hG;have hcm:=may_comes hmay hml;have hB35:=hB;refine L.nil (thn_n (W.seq (W.drawD (fun _=>True) (fun _=>False) 7 kstog_mixed (fun wD36 hw=>?_))));have hB:=hB.carry hw;have hb:=hb.carry hw;have bx5:=bx5.carry hw;have hB0:=Gr.refl (fun _=>False) wD36;have hR0:=Gr.refl (fun _=>True) wD36;have h:=h.bel hw;have hl:=hl.bel hw;have hst:=hst.carry hw;have hs:=hs.carry hw;have hH:=hH.carry hw;have hn:=Nat.le_trans hn hw.size;refine LAD.take0 (i:=0) rfl kr_ kr_ kr_ kr_ (fun w hw=>x_mv (v:=.pointer _) rfl) rfl ?_;refine LAD.take0 (i:=1) rfl kr_ kr_ kr_ kr_ (fun w hw=>x_nil rfl) rfl ?_;refine LAD.take0 (i:=2) rfl kr_ kr_ kr_ kr_ (fun w hw=>x_fa kstog_fo100_1 rfl) rfl ?_;refine LAD.take1 (i:=3) rfl kr_ kr_ kr_ kr_ kr_ kr_ (fun w hw=>x_ld (v:=.pointer _) kstog_oc98 rfl (hw.keepR (fun e=>e) (hb.cell0 rfl))) rfl ?_;refine LAD.take0 (i:=4) rfl kr_ kr_ kr_ kr_ (fun w hw=>x_mv (v:=.slice _ _ _) rfl) rfl ?_;refine LAD.step (rs:=[5]) hR0 (fun _=>hB0) kr_ (by simp) ⟨⟨_,rfl,?_⟩,trivial⟩;refine L.ret (x_call kstog_en44 rfl) rfl (body_ok _ _ l _ (hs.carry hB0) om_ (by have:=mayL_body hml om_;omega)) ?_;rintro _ w41 ⟨rfl,hw⟩;have hB0:=hB0.carry hw;have hR0:=hR0.carry hw;have hb:=hb.carry hw;refine L.nil (thn_n (LAD.step (rs:=[6]) hR0 (fun _=>hB0) kr_ (by simp) ⟨⟨_,rfl,?_⟩,trivial⟩));refine L.bs (sz:=1) (cells:=[S (bodyB l)]) Tryz.underlying22 kstog_el9 rfl rfl rfl rfl (fun w42 bx42 hw hz42=>?_);have hB0:=hB0.carry hw;have hR0:=hR0.carry hw;have hb:=hb.carry hw;have hbS:StrsAt (fun _=>False) w42 (.slice (some ⟨w41.heap.size,0,none⟩) 1 1) [bodyB l]:=strs_new [bodyB l] bx42 (by simp) (fun x hx=>by rw [List.mem_singleton.1 hx];have:=mayL_body hml om_;omega);refine L.nil (thn_n (LAD.step (rs:=[7]) hR0 (fun _=>hB0) kr_ (by simp) ⟨⟨_,rfl,?_⟩,trivial⟩));refine L.ret (x_call kstog_en41 rfl) rfl (append_f n0 bl b _ _ [bodyB l] D K q _ (h.bel hB0) (hl.bel hB0) hq har hbS (Nat.le_trans hn hB0.size) (by simp [need];omega)) ?_;rintro _ w43 ⟨rfl,⟨K1,h43⟩,hl43,hg43⟩;have hG43:Dg lgTy n0 wD36 w43:=(Dg.of_bel hB0).trans hg43;have hG43w:Dg lgTy n0 w w43:=(Dg.of_bel hB).trans hG43;have hR0:=hR0.trans (Gr.mono hg43 (fun _ _ _=>trivial));have hb:=hb.dg hg43 rfl;have hst43:=hst.dg hG43;have bx543:=bx5.dg hG43 rfl;have hH43:HoldsM w43 mb lm (comes G l):=hH.dg hG43;refine L.nil (thn_n (LAD.take0 (i:=8) rfl kr_ kr_ kr_ kr_ (fun w hw=>x_as (v:=.int _ _) rfl) rfl ?_));refine LAD.done kr_ kr_ hR0 ?_;have hB:=Gr.refl (fun _=>False) w43;have bx5:=bx543;refine thn_n (W.cut (fun D' E' w'=>D'=[]∧∃ K1:Fl,E' 0=.pointer (some ⟨bs,0,none⟩)∧E' 5=.pointer (some ⟨w32.heap.size,0,none⟩)∧E' 6=.int .i64 (comS D K K1 q G l).1∧(∃ K2,DiskF n0 w' b (comS D K K1 q G l).2.1 K2)∧LogB n0 w' bl b (comS D K K1 q G l).2.2 (comS D K K1 q G l).2.1.dead∧StoAt n0 w' bs bl G∧Box w' bs 100 [.map m,.pointer (some ⟨bl,0,none⟩)]∧Box w' w32.heap.size 97 [.map (some mb)]∧HoldsM w' mb lm (comes G l)∧Dg lgTy n0 w w') ?_ ?_)
     ·refine W.seq (W.region (L.val (x_mv (v:=.int _ _) rfl) rfl ?_));refine L.val (x_eql rfl rfl) rfl ?_;refine L.nil (thn_n (W.cond (b:=_) rfl (fun g45=>?_) (fun g45=>?_)))
      ·have h45:=of_decide_eq_true g45;have h210:(appF D K q [bodyB l]).1=210:=by simpa using g45
       obtain ⟨h210a,h210b⟩:=appF_210 h210;rw [h210a] at h43 hl43;rw [h210b] at hl43;have hl43:LogB n0 w43 bl b q false:=(show (D.dead=false) from hdd) ▸ hl43;have hr:comS D K K1 q G l=turnF D K1 q (allB (snapL (comes G l))):=by unfold comS;rw [if_pos hml,if_neg hl0,if_pos h210]
       refine W.drawD (fun _=>True) (fun _=>False) 5 kstog_mixed (fun wD46 hw=>?_);have hB:=hB.carry hw;have hb:=hb.carry hw;have bx5:=bx5.carry hw;have hB0:=Gr.refl (fun _=>False) wD46;have hR0:=Gr.refl (fun _=>True) wD46;have h43:=h43.bel hw;have hl43:=hl43.bel hw;have hst43:=hst43.carry hw;have hH43:=hH43.carry hw;have hG43w:Dg lgTy n0 w wD46:=hG43w.trans (Dg.of_bel hw);have hn46:n0≤wD46.heap.size:=by have:=hG43w.size;omega
       refine LAD.take0 (i:=0) rfl kr_ kr_ kr_ kr_ (fun w hw=>x_mv (v:=.pointer _) rfl) rfl ?_;refine LAD.take0 (i:=1) rfl kr_ kr_ kr_ kr_ (fun w hw=>x_nil rfl) rfl ?_;refine LAD.take0 (i:=2) rfl kr_ kr_ kr_ kr_ (fun w hw=>x_fa kstog_fo100_1 rfl) rfl ?_;refine LAD.take1 (i:=3) rfl kr_ kr_ kr_ kr_ kr_ kr_ (fun w hw=>x_ld (v:=.pointer _) kstog_oc98 rfl (hw.keepR (fun e=>e) (hb.cell0 rfl))) rfl ?_;refine LAD.step (rs:=[4]) hR0 (fun _=>hB0) kr_ (by simp) ⟨⟨_,rfl,?_⟩,trivial⟩;refine L.ret (x_call kstog_en46 rfl) rfl (snapshot_ok (n0:=n0) (m:=some mb) _ (bx5.carry hB0) (.inr ⟨mb,lm,rfl,by omega,hH43.carry hB0⟩) hGs hcm hGl) ?_;rintro v50 w50 ⟨hv50,hw⟩;have hB0:=hB0.carry hw;have hR0:=hR0.carry hw;have hb:=hb.carry hw;have bx5:=bx5.carry hw;obtain ⟨p50,c50,rfl,-⟩:=id hv50;have hv50:=hv50.new;refine L.nil (thn_n (LAD.step (rs:=[5]) hR0 (fun _=>hB0) kr_ (by simp) ⟨⟨_,rfl,?_⟩,trivial⟩));refine L.ret (x_call kstog_en45 rfl) rfl (turn_f n0 bl b _ _ (allB (snapL (comes G l))) D K1 q _ (h43.bel hB0) (hl43.bel hB0) hq har hv50 (Nat.le_trans hn46 hB0.size) (hne hml)) ?_;rintro _ w51 ⟨rfl,h51,hl51,hg51⟩;have hG51:Dg lgTy n0 wD46 w51:=(Dg.of_bel hB0).trans hg51;have hG51w:Dg lgTy n0 w w51:=hG43w.trans hG51;have hR0:=hR0.trans (Gr.mono hg51 (fun _ _ _=>trivial));have hb:=hb.dg hg51 rfl;have hst51:=hst43.dg hG51;have bx5:=bx5.dg hg51 rfl;have hH51:HoldsM w51 mb lm (comes G l):=hH43.dg hG51;refine L.nil (thn_n (LAD.take0 (i:=6) rfl kr_ kr_ kr_ kr_ (fun w hw=>x_as (v:=.int _ _) rfl) rfl ?_));refine LAD.done kr_ kr_ hR0 ?_;have hB:=Gr.refl (fun _=>False) w51;refine thn_n ?_;exact ⟨rfl,K1,rfl,rfl,congrArg (fun r:Int × Dk × Pt=>Value.int .i64 r.1) hr.symm,(by rw [hr];exact h51),(by rw [hr];exact hl51),hst51,hb,bx5,hH51,hG51w⟩
      ·have h45:=of_decide_eq_false g45;have h210:¬ (appF D K q [bodyB l]).1=210:=by simpa using g45
       have hr:comS D K K1 q G l=appF D K q [bodyB l]:=by unfold comS;rw [if_pos hml,if_neg hl0,if_neg h210]
       refine W.skip (thn_n ?_);exact ⟨rfl,K1,rfl,rfl,congrArg (fun r:Int × Dk × Pt=>Value.int .i64 r.1) hr.symm,(by rw [hr];exact ⟨K1,h43⟩),(by rw [hr];exact hl43),hst43,hb,bx5,hH43,hG43w⟩
     ·rintro D' E w52 ⟨rfl,K1,e0,e5,e6,hD52,hl52,hst52,hb,bx5,hH52,hG52⟩;rw [upd_self e0,upd_self e5,upd_self e6];generalize hrr:comS D K K1 q G l=r at *;refine W.seq (W.seq (W.region (L.val (x_mv (v:=.int _ _) rfl) rfl ?_)));refine L.val (x_eql rfl rfl) rfl ?_;refine L.nil (thn_n (W.cond (b:=_) rfl (fun g53=>?_) (fun g53=>?_)))
      ·have h53:=of_decide_eq_true g53;have h53:r.1=0:=by simpa using g53
       refine W.region (L.val (x_mv (v:=.pointer _) rfl) rfl ?_);refine L.val (x_ldn (vs:=_) kstog_ag97 rfl rfl (bx5.row rfl)) rfl ?_;refine L.val (x_nil rfl) rfl ?_;refine L.val (x_fa kstog_fo100_0 rfl) rfl ?_;refine L.setPart (o:=0) (k:=1) (new:=[.map (some mb)]) kstog_ag97 rfl rfl hb (by show 0+1≤2;omega) rfl (fun v hv=>by rw [List.mem_singleton.1 hv];rfl) (fun wl60 hbN hw hzl60=>?_);have hG60:Dg stTy n0 w wl60:=(Dg.mono hG52 st_of_lg).trans (hw.mono (fun k _ e=>by have e:k=bs:=e;rw [e];exact DkB.box hb kr_ hbs));have hl60:LogB n0 wl60 bl b r.2.2 r.2.1.dead:=⟨hl52.1,hl52.2.carryR hw (box_ne hl52.2 hb (by decide))⟩;have hD60:∃ K2,DiskF n0 wl60 b r.2.1 K2:=by obtain ⟨K2,hD⟩:=hD52;exact ⟨K2,hD.sto hb hw⟩
       have hst60:StoAt n0 wl60 bs bl (comes G l):=⟨some mb,hbs,hbN,.inr ⟨mb,lm,rfl,by omega,hH52.carryR hw (fun e=>by
         obtain ⟨es,ck,hes,-⟩:=hH52.map;have hbx:=hb;have e:mb=bs:=e;unfold Box at hbx;rw [← e,hes] at hbx;cases hbx)⟩⟩
       refine L.nil (thn_n (W.seq (W.region (L.val (x_mv (v:=.int _ _) rfl) rfl ?_))));refine L.val (x_as (v:=.int _ _) rfl) rfl ?_;refine L.nil (thn_n (W.ret (fin_mk (.inr rfl) ?_)));refine ⟨K1,?_⟩;rw [hrr];first
       | (rw [if_pos h53];exact ⟨rfl,hD60,hl60,hst60,hG60⟩)
       | (rw [if_neg h53];exact ⟨rfl,hD52,hl52,hst52,Dg.mono hG52 st_of_lg⟩)
      ·have h53:=of_decide_eq_false g53;have h53:¬ r.1=0:=by simpa using g53
       refine W.skip (thn_n (W.seq (W.region (L.val (x_mv (v:=.int _ _) rfl) rfl ?_))));refine L.val (x_as (v:=.int _ _) rfl) rfl ?_;refine L.nil (thn_n (W.ret (fin_mk (.inr rfl) ?_)));refine ⟨K1,?_⟩;rw [hrr];first
       | (rw [if_pos h53];exact ⟨rfl,hD60,hl60,hst60,hG60⟩)
       | (rw [if_neg h53];exact ⟨rfl,hD52,hl52,hst52,Dg.mono hG52 st_of_lg⟩)
end Go.Gx
namespace Go.Gx
open Go.Proofs Go.Sort
theorem krf14_el70:elT Tryz.prog 70 3=true:=by kernel_rfl
theorem krf14_en47:Go.Proofs.Enters Tryz.prog 47:=Go.Proofs.enters_of Tryz.func47 kr_ rfl
theorem krf14_en48:Go.Proofs.Enters Tryz.prog 48:=Go.Proofs.enters_of Tryz.func48 kr_ rfl
theorem krf14_en70:Go.Proofs.Enters Tryz.prog 70:=Go.Proofs.enters_of Tryz.func70 kr_ rfl
theorem krf14_mixed:Tryz.prog.follows .mixedOrders=true:=by kernel_rfl
theorem krf14_oc9:oneCellT Tryz.prog 9=true:=by kernel_rfl
theorem krf14_si70:structInfo Tryz.prog 70=some ([(0,1),(1,1),(2,1)],[S [],S [],Value.bool false]):=by kernel_rfl
theorem krf14_sz9:(Tryz.prog.info? 9).map (·.size)=some 1:=by kernel_rfl
theorem textB_mark (m:Str):(textB (if (m == [71])=true then [71] else [86])).length≤(textB m).length+2:=by
  have:(textB (if (m == [71])=true then ([71]:Str) else [86])).length=2:=by split <;> rfl
  omega
theorem outT_bytes:∀ l:List Str,(((bodyL (outT l)).map textB).flatten).length≤((l.map textB).flatten).length+2 * l.length
  | []=>by simp [outT,bodyL]
  | [_]=>by simp [outT,bodyL]
  | [_,_]=>by simp [outT,bodyL]
  | k :: m :: v :: r=>by
    have ih:=outT_bytes r;have hm:=textB_mark m;show (((k :: (if (m == [71])=true then ([71]:Str) else [86]) :: v :: bodyL (outT r)).map textB).flatten).length≤_;simp only [List.map_cons,List.flatten_cons,List.length_append,List.length_cons];omega
theorem outT_div:∀ l:List Str,(outT l).length=l.length / 3
  | []=>rfl
  | [_]=>by simp [outT]
  | [_,_]=>by simp [outT]
  | k :: m :: v :: r=>by
    have:=outT_div r;simp only [outT,List.length_cons];omega
theorem rfl2 {p:Option Addr} {n c:Nat} {a b:Bool} (h:b=a):Value.tuple #[.slice p n c,.bool a]=.tuple #[.slice p n c,.bool b]:=by rw [h]
theorem read23 (s:Str) (hs:s.length≤20000) (w:World):Ret Tryz.prog 33 #[S s] w fun r w'=>(∃ p c n,r=.tuple #[.slice p n c,.bool (editsB s).isSome]∧∀ l,editsB s=some l→EdsAt (fun k=>k<w.heap.size) w' (.slice p n c) l)∧Bel w w':=by
  have hE:=editsB_out hs;refine ret_of_W Tryz.func33 rfl (Nat.le_of_ble_eq_true rfl) (res2 rfl) ?_;have hB:=Gr.refl (fun _=>False) w;refine W.seq (W.region (L.val (x_as (v:=.slice _ _ _) rfl) rfl ?_));refine L.val (x_as (v:=.bool _) rfl) rfl ?_;refine L.nil (thn_n (W.seq (W.region (L.val (x_mv (v:=S _) rfl) rfl ?_))));refine L.ret (x_call krf14_en70 rfl) rfl (takeList01 s 0 om_ om_ _) ?_;rintro _ w11 ⟨⟨u11,rfl,hu11⟩,hw⟩;have hB:=hB.carry hw;obtain ⟨pu,cu,rfl,-⟩:=id hu11;obtain ⟨l,hl⟩:∃ l,l=(takeList s 0).1:=⟨_,rfl⟩;rw [← hl] at hu11 hE ⊢;have hu:StrsAt (fun k=>w11.heap.size≤k) w11 (.slice pu l.length cu) l:=hu11.up.mono fun k _ hk=>.inr hk
  have hln:l.length≤70368744177664:=by obtain ⟨_,_,_,_,_,h3,_⟩:=id hu;exact h3
  have hw11:=hB.size;refine L.val (x_mv (v:=_) rfl) rfl ?_;refine L.val (x_ext (v:=.slice _ _ _) rfl rfl) rfl ?_;refine L.val (x_ext (v:=.int _ _) rfl rfl) rfl ?_;refine L.val (x_ext (v:=.int _ _) rfl rfl) rfl ?_;refine L.val (x_as (v:=.slice _ _ _) rfl) rfl ?_;refine L.val (x_as (v:=.int _ _) rfl) rfl ?_;refine L.val (x_as (v:=.int _ _) rfl) rfl ?_;refine L.nil (thn_n (W.seq (W.seq (W.region (L.val (x_mv (v:=.int _ _) rfl) rfl ?_)))));refine L.val (x_neq rfl rfl) rfl ?_;refine L.val (x_mv (v:=.bool _) rfl) rfl ?_;refine L.splitat (dj:=17) (b:=_) rfl (fun g17=>?_) (fun g17=>?_)
  ·have h17:=dne_t g17;have hno:(takeList s 0).2.2≠0∨(takeList s 0).2.1≠s.length∨l.length % 3≠0:=.inl (by simpa using h17);(iterate 4 refine L.gno (dj:=17) (b:=_) rfl rfl g17 rfl ?_);refine L.val (x_pick_t (v:=.bool _) (congrArg Value.bool g17) rfl) rfl ?_;refine L.val (x_mv (v:=.bool _) rfl) rfl ?_;(iterate 4 refine L.gno (dj:=23) (b:=_) rfl rfl rfl rfl ?_);refine L.val (x_pick_t (v:=.bool _) rfl rfl) rfl ?_;refine L.nil (thn_n (W.cond (b:=true) rfl (fun _=>?_) (fun h=>nomatch h)));refine W.seq (W.region (L.val (x_as (v:=.slice _ _ _) rfl) rfl ?_));refine L.val (x_as (v:=.bool _) rfl) rfl ?_;refine L.nil (thn_n (W.ret (thn_r (fin_mk (.inr rfl) ?_))));rw [if_pos hno] at hE;rw [hE];exact ⟨⟨_,_,_,rfl,fun l h=>by cases h⟩,hB⟩
  ·have h17:=dne_f g17;have ha:(takeList s 0).2.2=0:=by simpa using h17
   refine L.gyes' (dj:=17) (b:=_) rfl rfl g17 ?_;refine L.val (x_mv (v:=.int _ _) rfl) rfl ?_;refine L.gyes' (dj:=17) (b:=_) rfl rfl g17 ?_;refine L.val (x_mv (v:=S _) rfl) rfl ?_;refine L.gyes' (dj:=17) (b:=_) rfl rfl g17 ?_;refine L.val (x_len_str Tryz.underlying9 rfl) rfl ?_;refine L.gyes' (dj:=17) (b:=_) rfl rfl g17 ?_;refine L.val (x_neq rfl rfl) rfl ?_;refine L.val (x_pick_f (v:=.bool _) (congrArg Value.bool g17) rfl) rfl ?_;refine L.val (x_mv (v:=.bool _) rfl) rfl ?_;refine L.splitat (dj:=23) (b:=_) rfl (fun g23=>?_) (fun g23=>?_)
   ·have h23:=dne_t g23;have hno:(takeList s 0).2.2≠0∨(takeList s 0).2.1≠s.length∨l.length % 3≠0:=.inr (.inl om_);(iterate 4 refine L.gno (dj:=23) (b:=_) rfl rfl g23 rfl ?_);refine L.val (x_pick_t (v:=.bool _) (congrArg Value.bool g23) rfl) rfl ?_;refine L.nil (thn_n (W.cond (b:=true) rfl (fun _=>?_) (fun h=>nomatch h)));refine W.seq (W.region (L.val (x_as (v:=.slice _ _ _) rfl) rfl ?_));refine L.val (x_as (v:=.bool _) rfl) rfl ?_;refine L.nil (thn_n (W.ret (thn_r (fin_mk (.inr rfl) ?_))));rw [if_pos hno] at hE;rw [hE];exact ⟨⟨_,_,_,rfl,fun l h=>by cases h⟩,hB⟩
   ·have h23:=dne_f g23;have hb:(takeList s 0).2.1=s.length:=by omega
    refine L.gyes' (dj:=23) (b:=_) rfl rfl g23 ?_;refine L.val (x_mv (v:=.slice _ _ _) rfl) rfl ?_;refine L.gyes' (dj:=23) (b:=_) rfl rfl g23 ?_;refine L.val (x_len_slice Tryz.underlying22 rfl) rfl ?_;refine L.gyes' (dj:=23) (b:=_) rfl rfl g23 ?_;refine L.val (x_rem (c:=((l.length % 3:Nat):Int)) rfl rfl om_ (by decide) om_) rfl ?_;refine L.gyes' (dj:=23) (b:=_) rfl rfl g23 ?_;refine L.val (x_neq rfl rfl) rfl ?_;refine L.val (x_pick_f (v:=.bool _) (congrArg Value.bool g23) rfl) rfl ?_;refine L.nil (thn_n (W.cond (b:=_) rfl (fun g27=>?_) (fun g27=>?_)))
    ·have h27:=dne_t g27;have hno:(takeList s 0).2.2≠0∨(takeList s 0).2.1≠s.length∨l.length % 3≠0:=.inr (.inr om_);refine W.seq (W.region (L.val (x_as (v:=.slice _ _ _) rfl) rfl ?_));refine L.val (x_as (v:=.bool _) rfl) rfl ?_;refine L.nil (thn_n (W.ret (thn_r (fin_mk (.inr rfl) ?_))));rw [if_pos hno] at hE;rw [hE];exact ⟨⟨_,_,_,rfl,fun l h=>by cases h⟩,hB⟩
    ·have h27:=dne_f g27;have h3:l.length % 3=0:=by omega
     have hsm0:=(takeList_small ha hb).1;rw [← hl] at hsm0;refine W.skip (thn_n (W.seq (W.region (L.val (x_as (v:=.slice _ _ _) rfl) rfl ?_))));refine L.nil (thn_n (W.seq (W.seq (W.region (L.val (x_as (v:=.int _ _) rfl) rfl ?_)))));refine L.nil (thn_n (W.block (W.loop (fun m' E w'=>∃ (j:Nat) (vo:Value),m'=l.length / 3 - j∧E 0=S s∧E 4=.slice pu l.length cu∧E 7=vo∧E 8=.int .i64 (3 * j:Nat)∧(3 * j≤l.length)∧(Bel w w')∧(StrsAt (fun k=>w11.heap.size≤k) w' (.slice pu l.length cu) l)∧(Own w' w11.heap.size 70 3 vo j ((outT (l.take (3 * j))).map edV).flatten)∧(Ge w11.heap.size w')) (l.length / 3) ?_ ?_)))
     ·exact ⟨0,.slice none 0 0,by omega,by first | rfl | exact vi om_ | exact vs (by first | assumption | (rw [hst];done) | (rw [hst];simp only [List.append_assoc])),by first | rfl | exact vi om_ | exact vs (by first | assumption | (rw [hst];done) | (rw [hst];simp only [List.append_assoc])),by first | rfl | exact vi om_ | exact vs (by first | assumption | (rw [hst];done) | (rw [hst];simp only [List.append_assoc])),by first | rfl | exact vi om_ | exact vs (by first | assumption | (rw [hst];done) | (rw [hst];simp only [List.append_assoc])),ao_,ao_,ao_,(by exact own_nil),(by exact Nat.le_refl _)⟩
     ·rintro _ E wL29 ⟨j,vo,em,e0,e4,e7,e8,hj,hB,hu,hO,hge⟩;rw [upd_self e0,upd_self e4,upd_self e7,upd_self e8];refine W.seq (W.seq (W.region ?_));obtain ⟨av,cv,ev,-⟩:=own_shape hO;subst ev;have hql:=fun j hj=>Own.lt hO (j:=j) hj
      refine L.val (x_mv (v:=.int _ _) rfl) rfl ?_;refine L.val (x_mv (v:=.slice _ _ _) rfl) rfl ?_;refine L.val (x_len_slice Tryz.underlying22 rfl) rfl ?_;refine L.val (x_lss rfl rfl) rfl ?_;refine L.nil (thn_n (W.cond (b:=_) rfl (fun g32=>?_) (fun g32=>?_)))
      ·have h32:=of_decide_eq_true g32;have hlt:3 * j+2<l.length:=by omega
       have hst:=outT_take l j hlt;obtain ⟨e,he⟩:∃ e:Ed,e=⟨l.getD (3 * j) [],l.getD (3 * j+2) [],l.getD (3 * j+1) [] == [71]⟩:=⟨_,rfl⟩;rw [← he] at hst;refine W.skip (thn_n (W.seq (W.block (W.drawD (fun j'=>some j'=(Value.slice av j cv).ownBlock) (fun _=>False) 18 krf14_mixed (fun wD35 hw=>?_)))));have hB:=hB.carry hw;have hu:=hu.carry hw;have hO:=hO.carry hw;have hge:=hge.carry hw;have hB0:=Gr.refl (fun _=>False) wD35;have hR0:=Gr.refl (fun j'=>some j'=(Value.slice av j cv).ownBlock) wD35;obtain ⟨p',cap',ep,-,-,-,-,hg'⟩:=id hu;obtain ⟨b,o,eb,hbn,hcs⟩:=hg' (by rintro rfl;simp at hlt);cases ep;subst eb;have hsB:=hB.size;refine LAD.take0 (i:=0) rfl kr_ kr_ kr_ kr_ (fun w hw=>x_mv (v:=.slice _ _ _) rfl) rfl ?_;refine LAD.take0 (i:=1) rfl kr_ kr_ kr_ kr_ (fun w hw=>x_mv (v:=.slice _ _ _) rfl) rfl ?_;refine LAD.take0 (i:=2) rfl kr_ kr_ kr_ kr_ (fun w hw=>x_mv (v:=.int _ _) rfl) rfl ?_;refine LAD.take0 (i:=3) rfl kr_ kr_ kr_ kr_ (fun w hw=>x_ia1 (j:=3 * j) Tryz.underlying22 krf14_sz9 rfl rfl om_ om_) rfl ?_;refine LAD.take0 (i:=4) rfl kr_ kr_ kr_ kr_ (fun w hw=>x_ld (v:=S _) krf14_oc9 rfl (hw.keepR (fun e=>hbn (hql _ e).1) (hcs (3 * j) om_))) rfl ?_;refine LAD.take0 (i:=5) rfl kr_ kr_ kr_ kr_ (fun w hw=>x_mv (v:=.slice _ _ _) rfl) rfl ?_;refine LAD.take0 (i:=6) rfl kr_ kr_ kr_ kr_ (fun w hw=>x_mv (v:=.int _ _) rfl) rfl ?_;refine LAD.take0 (i:=7) rfl kr_ kr_ kr_ kr_ (fun w hw=>x_add rfl rfl (wr64 om_)) rfl ?_;refine LAD.take0 (i:=8) rfl kr_ kr_ kr_ kr_ (fun w hw=>x_ia1 (j:=3 * j+2) Tryz.underlying22 krf14_sz9 rfl rfl om_ om_) rfl ?_;refine LAD.take0 (i:=9) rfl kr_ kr_ kr_ kr_ (fun w hw=>x_ld (v:=S _) krf14_oc9 rfl (hw.keepR (fun e=>hbn (hql _ e).1) (hcs (3 * j+2) om_))) rfl ?_;refine LAD.take0 (i:=10) rfl kr_ kr_ kr_ kr_ (fun w hw=>x_mv (v:=.slice _ _ _) rfl) rfl ?_;refine LAD.take0 (i:=11) rfl kr_ kr_ kr_ kr_ (fun w hw=>x_mv (v:=.int _ _) rfl) rfl ?_;refine LAD.take0 (i:=12) rfl kr_ kr_ kr_ kr_ (fun w hw=>x_add rfl rfl (wr64 om_)) rfl ?_;refine LAD.take0 (i:=13) rfl kr_ kr_ kr_ kr_ (fun w hw=>x_ia1 (j:=3 * j+1) Tryz.underlying22 krf14_sz9 rfl rfl om_ om_) rfl ?_;refine LAD.take0 (i:=14) rfl kr_ kr_ kr_ kr_ (fun w hw=>x_ld (v:=S _) krf14_oc9 rfl (hw.keepR (fun e=>hbn (hql _ e).1) (hcs (3 * j+1) om_))) rfl ?_;refine LAD.take0 (i:=15) rfl kr_ kr_ kr_ kr_ (fun w hw=>x_eqs rfl rfl) rfl ?_;refine LAD.take0 (i:=16) rfl kr_ kr_ kr_ kr_ (fun w hw=>x_build (cells:=[S _,S _,.bool _]) krf14_si70 rfl rfl) rfl ?_;refine LAD.step (rs:=[17]) hR0 (fun _=>hB0) kr_ (by simp) ⟨⟨_,rfl,?_⟩,trivial⟩;refine L.bs (sz:=3) (cells:=[S (l.getD (3 * j) []),S (l.getD (3 * j+2) []),.bool (l.getD (3 * j+1) [] == [71])]) Tryz.underlying31 krf14_el70 rfl rfl rfl rfl (fun w52 bx52 hw hz52=>?_);have hB0:=hB0.carry hw;have hR0:=hR0.carry hw;have hO:=hO.carry hw;rw [show [S (l.getD (3 * j) []),S (l.getD (3 * j+2) []),Value.bool (l.getD (3 * j+1) [] == [71])]=edV e by rw [he];rfl] at bx52;refine L.nil (thn_n (LAD.step (rs:=[18]) hR0 (fun _=>hB0) kr_ (by simp) ⟨⟨_,rfl,?_⟩,trivial⟩));refine L.appendN (m:=1) Tryz.underlying31 krf14_el70 rfl rfl rfl hO rfl (holdsN_box bx52) (edV_one e) om_ (by have:=(hge.carry hB0);exact this) (fun v53 w53 hO53 hg hob53=>?_);have hR0:=hR0.trans hg;have hO2:Own w53 w11.heap.size 70 3 v53 (j+1) ((outT (l.take (3 * (j+1)))).map edV).flatten:=by
         rw [hst,List.map_append,List.flatten_append];simpa using hO53
       have hge2:Ge w11.heap.size w53:=(hge.carry hB0).carryR hg;obtain ⟨a53,c53,e53,-⟩:=own_shape hO2;subst e53;refine L.nil (thn_n (LAD.take0 (i:=19) rfl kr_ kr_ kr_ kr_ (fun w hw=>x_as (v:=.slice _ _ _) rfl) rfl ?_));refine LAD.done kr_ kr_ hR0 ?_;have hB:=hB.step hR0 (fun i hi e=>by have:=(hql i e).1;omega);have hu:=hu.carryR hR0 (fun i e=>(hql i e).1);have hge:=hge2;refine blk_n (thn_n (W.region (L.val (x_mv (v:=.int _ _) rfl) rfl ?_)));refine L.val (x_add rfl rfl (wr64 om_)) rfl ?_;refine L.val (x_as (v:=.int _ _) rfl) rfl ?_;refine L.nil (thn_n ⟨rfl,?_⟩);refine ⟨_,?_,j+1,_,rfl,by first | rfl | exact vi om_ | exact vs (by first | assumption | (rw [hst];done) | (rw [hst];simp only [List.append_assoc])),by first | rfl | exact vi om_ | exact vs (by first | assumption | (rw [hst];done) | (rw [hst];simp only [List.append_assoc])),by first | rfl | exact vi om_ | exact vs (by first | assumption | (rw [hst];done) | (rw [hst];simp only [List.append_assoc])),by first | rfl | exact vi om_ | exact vs (by first | assumption | (rw [hst];done) | (rw [hst];simp only [List.append_assoc])),ao_,ao_,ao_,(by exact hO2),(by exact hge2)⟩;omega
      ·have h32:=dlt_f g32;have hj3:3 * j=l.length:=by omega
       have hjl:(outT l).length=j:=by rw [outT_div];omega
       rw [hj3,List.take_length] at hO;have hok:∀ e∈outT l,EdOk e:=fun e he=>by
         obtain ⟨_,_,_,_,_,_,hx,_⟩:=id hu;obtain ⟨m1,m2⟩:=out_mem l e he;exact ⟨hx _ m1,hx _ m2⟩
       rw [if_neg (by rintro (e | e | e);exact e ha;exact e hb;exact e h3)] at hE;have hsm:=takeList_small ha hb;have hinv:=takeList_inv ha hb;rw [← hl] at hsm hinv;have hby:=outT_bytes l;have hsl:(listB l).length=s.length:=by rw [← hinv]
       have hsl2:(listB l).length=(numB l.length).length+((l.map textB).flatten).length:=by unfold listB;rw [List.length_append]
       have hbl:(bodyB (outT l)).length≤100000000:=by
         unfold bodyB listB;rw [List.length_append];have:=numB_len (n:=(bodyL (outT l)).length) (by rw [bodyL_len];omega);omega
       rw [← hjl] at hO ⊢;have hEd:EdsAt (fun k=>k<w.heap.size) _ (.slice av (outT l).length cv) (outT l):=(own_eds hO hok om_).mono fun k _ hk=>by have:=hB.size;have hk:=hk;have:=hw11;omega
       refine W.exit (thn_x (thn_x (blk_hit ?_)));refine thn_n (W.seq (W.region (L.val (x_mv (v:=.slice _ _ _) rfl) rfl ?_)));refine L.val (x_mv (v:=.slice _ _ _) rfl) rfl ?_;refine L.ret (x_call krf14_en47 rfl) rfl (may23 _ _ (outT l) _ hEd) ?_;rintro _ w56 ⟨rfl,hw⟩;have hB:=hB.carry hw;have hEd:=hEd.carry hw;refine L.val (x_mv (v:=.bool _) rfl) rfl ?_;refine L.splitat (dj:=57) (b:=_) rfl (fun g57=>?_) (fun g57=>?_)
       ·have h57:=g57;refine L.gyes' (dj:=57) (b:=_) rfl rfl g57 ?_;refine L.val (x_mv (v:=.slice _ _ _) rfl) rfl ?_;refine L.gyes' (dj:=57) (b:=_) rfl rfl g57 ?_;refine L.ret (x_call krf14_en48 rfl) rfl (body23 _ _ (outT l) _ hEd om_ hbl) ?_;rintro _ w59 ⟨rfl,hw⟩;have hB:=hB.carry hw;have hEd:=hEd.carry hw;refine L.gyes' (dj:=57) (b:=_) rfl rfl g57 ?_;refine L.val (x_mv (v:=S _) rfl) rfl ?_;refine L.gyes' (dj:=57) (b:=_) rfl rfl g57 ?_;refine L.val (x_eqs rfl rfl) rfl ?_;refine L.val (x_pick_t (v:=.bool _) (congrArg Value.bool g57) rfl) rfl ?_;refine L.val (x_as (v:=.slice _ _ _) rfl) rfl ?_;refine L.val (x_as (v:=.bool _) rfl) rfl ?_;refine L.nil (thn_n (W.ret (fin_mk (.inr rfl) ?_)));have e1:(editsB s).isSome=(mayL (outT l) && (bodyB (outT l) == s)):=by
          rw [hE];by_cases h1:mayL (outT l)=true <;> by_cases h2:bodyB (outT l)=s
          · rw [if_pos ⟨h1,h2⟩,h1,beq_iff_eq.2 h2];rfl
          · rw [if_neg (fun e=>h2 e.2),h1,beq_eq_false_iff_ne.2 h2];rfl
          · rw [if_neg (fun e=>h1 e.1)];simp only [Bool.not_eq_true] at h1;rw [h1];rfl
          · rw [if_neg (fun e=>h1 e.1)];simp only [Bool.not_eq_true] at h1;rw [h1];rfl
        refine ⟨⟨_,_,_,rfl2 (by rw [e1];first | (rw [g57];rfl) | rfl),fun x hx=>?_⟩,hB⟩;rw [hE] at hx;split at hx
        · cases hx;exact hEd
        · cases hx
       ·have h57:=g57;(iterate 4 refine L.gno (dj:=57) (b:=_) rfl rfl g57 rfl ?_);refine L.val (x_pick_f (v:=.bool _) (congrArg Value.bool g57) rfl) rfl ?_;refine L.val (x_as (v:=.slice _ _ _) rfl) rfl ?_;refine L.val (x_as (v:=.bool _) rfl) rfl ?_;refine L.nil (thn_n (W.ret (fin_mk (.inr rfl) ?_)));have e1:(editsB s).isSome=(mayL (outT l) && (bodyB (outT l) == s)):=by
          rw [hE];by_cases h1:mayL (outT l)=true <;> by_cases h2:bodyB (outT l)=s
          · rw [if_pos ⟨h1,h2⟩,h1,beq_iff_eq.2 h2];rfl
          · rw [if_neg (fun e=>h2 e.2),h1,beq_eq_false_iff_ne.2 h2];rfl
          · rw [if_neg (fun e=>h1 e.1)];simp only [Bool.not_eq_true] at h1;rw [h1];rfl
          · rw [if_neg (fun e=>h1 e.1)];simp only [Bool.not_eq_true] at h1;rw [h1];rfl
        refine ⟨⟨_,_,_,rfl2 (by rw [e1];first | (rw [g57];rfl) | rfl),fun x hx=>?_⟩,hB⟩;rw [hE] at hx;split at hx
        · cases hx;exact hEd
        · cases hx
end Go.Gx
