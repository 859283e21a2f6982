/- The program's store and the document's, side by side. Conditions: none. -/
import Derived.Test.YtdklfpoofgagmaaGreatQbRp2
import Derived.Test.YtdklfpoofgagmaaGreatQbWdk
namespace Go.Gx
open Go.Proofs Go.Sort
theorem krx1_el9:elT Tryz.prog 9 1=true:=by kernel_rfl
theorem krx1_en29:Go.Proofs.Enters Tryz.prog 29:=Go.Proofs.enters_of Tryz.func29 kr_ rfl
theorem krx1_en30:Go.Proofs.Enters Tryz.prog 30:=Go.Proofs.enters_of Tryz.func30 kr_ rfl
theorem krx1_en31:Go.Proofs.Enters Tryz.prog 31:=Go.Proofs.enters_of Tryz.func31 kr_ rfl
theorem krx1_en59:Go.Proofs.Enters Tryz.prog 59:=Go.Proofs.enters_of Tryz.func59 kr_ rfl
theorem krx1_en60:Go.Proofs.Enters Tryz.prog 60:=Go.Proofs.enters_of Tryz.func60 kr_ rfl
theorem krx1_oc9:oneCellT Tryz.prog 9=true:=by kernel_rfl
theorem krx1_sz9:(Tryz.prog.info? 9).map (·.size)=some 1:=by kernel_rfl
theorem rs_of_rk (T:TypeId) (h:rkTy T=true):rsTy T=true:=rs_of_rl T (rl_of_rk T h)
theorem nb_of_rs (T:TypeId) (h:rsTy T=true):nbTy T=true:=by
  unfold rsTy rlTy rkTy at h;simp only [Bool.or_eq_true,beq_iff_eq] at h;rcases h with ((h | h) | h) | h <;> subst h <;> kernel_rfl
theorem rk_of_st (T:TypeId) (h:stTy T=true):rkTy T=false:=by
  unfold stTy lgTy dkTy at h;simp only [Bool.or_eq_true,beq_iff_eq] at h;rcases h with (((h | h) | h) | h) | h <;> subst h <;> kernel_rfl
section
variable {n0 b b' bp' bs bl:Nat} {w w':World} {D D':Dk} {K K':Fl} {q:Pt} {br:Bool} {G:List Ed}
theorem RDisk.nb (h:RDisk n0 w b' bp' D' K') (g:Rt rsTy n0 bp' w w'):Dg nbTy n0 w w':=by
  obtain ⟨h1,h2,h3,cp,tl,vc,vk,h4,h5,h6,h7,h8⟩:=h;refine Gr.mono g fun k _ e=>?_
  rcases e with e | e
  · rw [e];exact DkB.box h6 kr_ h2
  · exact DkB.mono e nb_of_rs
theorem DiskF.rs (h:DiskF n0 w b D K) (hR:RDisk n0 w b' bp' D' K') (g:Rt rsTy n0 bp' w w'):DiskF n0 w' b D K:=by
  obtain ⟨h1,h2,bp,vc,vk,h3,h4,h5,h6,h7⟩:=h;refine ⟨h1,h2,bp,vc,vk,h3,h4.rg g kr_ (hR.ne h4 (by decide)),h5.dg (hR.nb g),h6.rg g kr_ (hR.ne h6 (by decide)),Own.carryR h7 g fun j hj e=>?_⟩;rcases e with e | e
  · obtain ⟨-,-,-,cp,tl,vc',vk',-,-,hp,-⟩:=hR;subst e;exact own_box_ne h7 hp (by decide) hj
  · exact DkB.no_own h7 kr_ j hj e
theorem LogB.rs (h:LogB n0 w bl b q br) (hR:RDisk n0 w b' bp' D' K') (g:Rt rsTy n0 bp' w w'):LogB n0 w' bl b q br:=⟨h.1,h.2.rg g kr_ (hR.ne h.2 (by decide))⟩
theorem StoAt.rs (h:StoAt n0 w bs bl G) (hR:RDisk n0 w b' bp' D' K') (g:Rt rsTy n0 bp' w w'):StoAt n0 w' bs bl G:=by
  obtain ⟨m,h1,h2,h3⟩:=h;exact ⟨m,h1,h2.rg g kr_ (hR.ne h2 (by decide)),h3.dg (hR.nb g)⟩
theorem SasAt.rs {A:Nat→Prop} {v:Value} {l:List Sa} (h:SasAt (fun k=>n0≤k) w v l) (hb:n0≤bp') (g:Rt rsTy n0 bp' w w'):SasAt (fun k=>n0≤k) w' v l:=
  h.carryR g (fun k e=>e.elim (fun e=>by rw [e];exact hb) (fun e=>e.1))
theorem RDisk.st (h:RDisk n0 w b' bp' D' K') (g:Dg stTy n0 w w'):RDisk n0 w' b' bp' D' K':=h.dg g (Nat.le_refl _) rk_of_st kr_
theorem RLog.st (h:RLog n0 w bl b q br) (g:Dg stTy n0 w w'):RLog n0 w' bl b q br:=⟨h.1,h.2.dg g kr_⟩
theorem RSto.st (h:RSto n0 w bs bl G) (g:Dg stTy n0 w w'):RSto n0 w' bs bl G:=by
  obtain ⟨h1,p,c,h2,h3,h4⟩:=h;exact ⟨h1,p,c,h2.dg g kr_,h3.dg g kr_,h4⟩
theorem RSto.rk (h:RSto n0 w bs bl G) (hR:RDisk n0 w b' bp' D' K') (g:Rt rkTy n0 bp' w w'):RSto n0 w' bs bl G:=h.rg hR (g.mono rl_of_rk)
theorem RLog.rk (h:RLog n0 w bl b q br) (hR:RDisk n0 w b' bp' D' K') (g:Rt rkTy n0 bp' w w'):RLog n0 w' bl b q br:=⟨h.1,h.2.rg g kr_ (hR.ne h.2 (by decide))⟩
theorem StoAt.dk (h:StoAt n0 w bs bl G) (g:Dg dkTy n0 w w'):StoAt n0 w' bs bl G:=h.dg (Dg.mono g lg_of_dk)
theorem DiskF.weak0 {n1:Nat} (h:DiskF n1 w b D K0) (hn:n0≤n1):DiskF n0 w b D K0:=by
  obtain ⟨h1,h2,bp,vc,vk,h3,h4,⟨pk,ck,e,a1,a2,a3,a4⟩,h6,h7⟩:=h;exact ⟨Nat.le_trans hn h1,h2,bp,vc,vk,Nat.le_trans hn h3,h4,⟨pk,ck,e,a1,a2,a3,fun h=>absurd rfl h⟩,h6,h7.weak hn⟩
theorem RDisk.weak0 {n1:Nat} (h:RDisk n1 w b' bp' D' K0) (hn:n0≤n1):RDisk n0 w b' bp' D' K0:=by
  obtain ⟨h1,h2,h3,cp,tl,vc,vk,h4,⟨pk,ck,e,a1,a2,a3,a4⟩,h6,h7,h8⟩:=h;exact ⟨Nat.le_trans hn h1,Nat.le_trans hn h2,h3,cp,tl,vc,vk,h4,⟨pk,ck,e,a1,a2,a3,fun h=>absurd rfl h⟩,h6,h7,h8.weak hn⟩
theorem StoAt.weak {n1:Nat} (h:StoAt n1 w bs bl G) (hn:n0≤n1):StoAt n0 w bs bl G:=by
  obtain ⟨m,h1,h2,h3⟩:=h;refine ⟨m,Nat.le_trans hn h1,h2,?_⟩;rcases h3 with h | ⟨mb,l,e,h4,h5⟩
  · exact .inl h
  · exact .inr ⟨mb,l,e,Nat.le_trans hn h4,h5⟩
theorem LogB.weak {n1:Nat} (h:LogB n1 w bl b q br) (hn:n0≤n1):LogB n0 w bl b q br:=⟨Nat.le_trans hn h.1,h.2⟩
theorem RLog.weak {n1:Nat} (h:RLog n1 w bl b q br) (hn:n0≤n1):RLog n0 w bl b q br:=⟨Nat.le_trans hn h.1,h.2⟩
theorem RSto.weak {n1:Nat} (h:RSto n1 w bs bl G) (hn:n0≤n1):RSto n0 w bs bl G:=by
  obtain ⟨h1,p,c,h2,h3,h4⟩:=h;exact ⟨Nat.le_trans hn h1,p,c,h2,own_base h3 hn,h4⟩
end
section
variable {n0 base k bs bl:Nat} {w w':World} {G:List Ed} {v:Value} {xs:List Value}
theorem StoAt.own (h:StoAt n0 w bs bl G) (hO:Own w base 9 1 v k xs) (g:Gr (fun j=>some j=v.ownBlock) w w'):StoAt n0 w' bs bl G:=by
  obtain ⟨m,h1,h2,h3⟩:=h;refine ⟨m,h1,h2.carryR g (fun e=>own_box_ne hO h2 (by decide) e),h3.carryR g fun k hk e=>?_⟩;rcases h3 with ⟨e1,-⟩ | ⟨mb,l',e1,-,hH⟩
  · rw [e1] at hk;cases hk
  · rw [e1] at hk;cases hk;obtain ⟨es,ck',hes,-⟩:=hH.map;have:=Own.cells hO e hes;cases this
theorem RSto.own (h:RSto n0 w bs bl G) (hO:Own w base 9 1 v k xs) (g:Gr (fun j=>some j=v.ownBlock) w w'):RSto n0 w' bs bl G:=by
  obtain ⟨h1,p,c,h2,h3,h4⟩:=h;refine ⟨h1,p,c,h2.carryR g (fun e=>own_box_ne hO h2 (by decide) e),Own.carryR h3 g fun j hj e=>?_,h4⟩;rcases Own.open h3 with ⟨e1,-⟩ | ⟨b',cap,tl,e1,-,-,-,hb⟩
  · rw [e1] at hj;cases hj
  · rw [e1] at hj;cases hj;exact own_box_ne hO hb (by decide) e
end
theorem same23 (n0 bs bl bs' bl':Nat) (G:List Ed) (w:World) (h:StoAt n0 w bs bl G) (h':RSto n0 w bs' bl' G) (hG:Rises G) (hk:∀ e∈G,e.key.length≤1000) (hl:G.length≤100000) (hn:n0≤w.heap.size):
    Ret Tryz.prog 27 #[.pointer (some ⟨bs,0,none⟩),.pointer (some ⟨bs',0,none⟩)] w fun v w'=>v=.bool true∧Bel w w':=by
  refine ret_of_W Tryz.func27 rfl (Nat.le_of_ble_eq_true rfl) (res1 rfl) ?_;have hB:=Gr.refl (fun _=>False) w;have hsz0:=hB.size;refine W.seq (W.region (L.val (x_as (v:=.bool _) rfl) rfl ?_));refine L.nil (thn_n (W.seq (W.seq (W.region (L.val (x_mv (v:=.pointer _) rfl) rfl ?_)))));refine L.ret (x_call krx1_en31 rfl) rfl (keys_s n0 bs bl G [] _ h hG hk om_) ?_;rintro v12 w12 ⟨hk12,hw⟩;have hB:=hB.carry hw;have h:=h.carry hw;have h':=h'.carry hw;obtain ⟨p12,c12,rfl,-⟩:=id hk12;have hs12:=hB.size;refine L.val (x_mv (v:=.pointer _) rfl) rfl ?_;refine L.ret (x_call krx1_en59 rfl) rfl (keys23 n0 bs' bl' G [] _ h' om_ om_) ?_;rintro v14 w14 ⟨⟨hk14,-⟩,hw⟩;have hB:=hB.carry hw;have h:=h.carry hw;have h':=h'.carry hw;have hk12:=hk12.carry hw;obtain ⟨p14,c14,rfl,-⟩:=id hk14;have hs14:=hB.size;refine L.ret (x_call krx1_en30 rfl) rfl (same21 _ _ _ _ _ _ _ hk12 hk14) ?_;rintro _ w15 ⟨rfl,hw⟩;have hB:=hB.carry hw;have h:=h.carry hw;have h':=h'.carry hw;have hk12:=hk12.carry hw;have hk14:=hk14.carry hw;rw [decide_eq_true rfl];have hs15:=hB.size;refine L.val (x_not rfl) rfl ?_;refine L.val (x_mv (v:=.bool _) rfl) rfl ?_;refine L.splitat (dj:=17) (b:=_) rfl (fun g17=>?_) (fun g17=>?_)
  ·have h17:=(not_t g17);cases g17
  ·have h17:=(not_f g17);refine L.gyes' (dj:=17) (b:=_) rfl rfl g17 ?_;refine L.val (x_mv (v:=.pointer _) rfl) rfl ?_;refine L.gyes' (dj:=17) (b:=_) rfl rfl g17 ?_;refine L.ret (x_call krx1_en31 rfl) rfl (keys_s n0 bs bl G [97] _ h hG hk om_) ?_;rintro v19 w19 ⟨hk19,hw⟩;have hB:=hB.carry hw;have h:=h.carry hw;have h':=h'.carry hw;have hk12:=hk12.carry hw;have hk14:=hk14.carry hw;obtain ⟨p19,c19,rfl,-⟩:=id hk19;have hs19:=hB.size;refine L.gyes' (dj:=17) (b:=_) rfl rfl g17 ?_;refine L.val (x_mv (v:=.pointer _) rfl) rfl ?_;refine L.gyes' (dj:=17) (b:=_) rfl rfl g17 ?_;refine L.ret (x_call krx1_en59 rfl) rfl (keys23 n0 bs' bl' G [97] _ h' om_ om_) ?_;rintro v21 w21 ⟨⟨hk21,-⟩,hw⟩;have hB:=hB.carry hw;have h:=h.carry hw;have h':=h'.carry hw;have hk12:=hk12.carry hw;have hk14:=hk14.carry hw;have hk19:=hk19.carry hw;obtain ⟨p21,c21,rfl,-⟩:=id hk21;have hs21:=hB.size;refine L.gyes' (dj:=17) (b:=_) rfl rfl g17 ?_;refine L.ret (x_call krx1_en30 rfl) rfl (same21 _ _ _ _ _ _ _ hk19 hk21) ?_;rintro _ w22 ⟨rfl,hw⟩;have hB:=hB.carry hw;have h:=h.carry hw;have h':=h'.carry hw;have hk12:=hk12.carry hw;have hk14:=hk14.carry hw;have hk19:=hk19.carry hw;have hk21:=hk21.carry hw;rw [decide_eq_true rfl];have hs22:=hB.size;refine L.gyes' (dj:=17) (b:=_) rfl rfl g17 ?_;refine L.val (x_not rfl) rfl ?_;refine L.val (x_pick_f (v:=.bool _) (congrArg Value.bool g17) rfl) rfl ?_;refine L.nil (thn_n (W.cond (b:=_) rfl (fun g23=>?_) (fun g23=>?_)))
   ·have h23:=(not_t g23);cases g23
   ·have h23:=(not_f g23);refine W.skip (thn_n (W.seq (W.region (L.val (x_mv (v:=.pointer _) rfl) rfl ?_))));refine L.ret (x_call krx1_en59 rfl) rfl (keys23 n0 bs' bl' G [] _ h' om_ om_) ?_;rintro v26 w26 ⟨⟨-,u26,hO26,rfl⟩,hw⟩;have hB:=hB.carry hw;have h:=h.carry hw;have h':=h'.carry hw;obtain ⟨p26,c26,rfl,-⟩:=own_shape hO26;have hs26:=hB.size;have hse26:=hw.size;have hkl:(keysG G []).length≤G.length:=by unfold keysG;exact Nat.le_trans (List.length_filter_le _ _) (by rw [List.length_map];exact Nat.le_refl _)
    obtain ⟨base,hbase⟩:∃ base,base=w22.heap.size:=⟨_,rfl⟩;rw [← hbase] at hO26 hs22;refine L.bs (sz:=1) (cells:=[S [97],S [110,111,98,111,100,121],S []]) Tryz.underlying22 krx1_el9 rfl rfl rfl rfl (fun w27 bx27 hw hz27=>?_);have hB:=hB.carry hw;have h:=h.carry hw;have h':=h'.carry hw;have hO26:=hO26.carry hw;have hs27:=hB.size;have hse27:=hw.size;refine L.appendN (m:=3) Tryz.underlying22 krx1_el9 rfl rfl rfl hO26 rfl (holdsN_box bx27) (by simp [Value.oneCell',S]) om_ om_ (fun v28 w28 hO28 hg hob28=>?_);have hB:=hB.step hg (fun i hi e=>by have:=(Own.lt hO26 e).1;omega);have h:=StoAt.own h hO26 hg;have h':=RSto.own h' hO26 hg;have hO2:Own w28 base 9 1 v28 ((keysG G []).length+3) (((keysG G [])++[[97],[110,111,98,111,100,121],[]]).map S):=by
      rw [List.map_append];exact hO28
    obtain ⟨p28,c28,e28,-⟩:=own_shape hO2;subst e28;obtain ⟨ks,hks⟩:∃ ks:List Str,ks=(keysG G [])++[[97],[110,111,98,111,100,121],[]]:=⟨_,rfl⟩;rw [← hks] at hO2;have hkl2:(keysG G []).length+3=ks.length:=by rw [hks,List.length_append];rfl
    rw [hkl2] at hO2 ⊢;refine L.val (x_as (v:=.slice _ _ _) rfl) rfl ?_;refine L.nil (thn_n (W.seq (W.seq (W.region (L.val (x_as (v:=.int _ _) rfl) rfl ?_)))));refine L.nil (thn_n (W.block (W.loop (fun m' E w'=>∃ (i:Nat),m'=ks.length - i∧E 0=.pointer (some ⟨bs,0,none⟩)∧E 1=.pointer (some ⟨bs',0,none⟩)∧E 5=.slice p28 ks.length c28∧E 6=.int .i64 (i:Nat)∧(i≤ks.length)∧(Bel w w')∧(StoAt n0 w' bs bl G)∧(RSto n0 w' bs' bl' G)∧(Own w' base 9 1 (.slice p28 ks.length c28) ks.length (ks.map S))) (ks.length) ?_ ?_)))
    ·exact ⟨0,by omega,vi_,vi_,vi_,vi_,ao_,ao_,ao_,ao_,ao_⟩
    ·rintro _ E wL29 ⟨i,em,e0,e1,e5,e6,hi,hB,h,h',hO2⟩;rw [upd_self e0,upd_self e1,upd_self e5,upd_self e6];refine W.seq (W.seq (W.region (L.val (x_mv (v:=.int _ _) rfl) rfl ?_)));refine L.val (x_mv (v:=.slice _ _ _) rfl) rfl ?_;refine L.val (x_len_slice Tryz.underlying22 rfl) rfl ?_;refine L.val (x_lss rfl rfl) rfl ?_;refine L.nil (thn_n (W.cond (b:=_) rfl (fun g32=>?_) (fun g32=>?_)))
     ·have h32:=of_decide_eq_true g32;have hlt:i<ks.length:=by omega
      obtain ⟨b28,rfl⟩:=own_pos hO2 om_;refine W.skip (thn_n (W.seq (W.block (W.seq (W.region (L.val (x_mv (v:=.pointer _) rfl) rfl ?_))))));refine L.val (x_mv (v:=.slice _ _ _) rfl) rfl ?_;refine L.val (x_mv (v:=.int _ _) rfl) rfl ?_;refine L.val (x_ia1 (j:=i) Tryz.underlying22 krx1_sz9 rfl rfl om_ om_) rfl ?_;refine L.val (x_ld (v:=S _) krx1_oc9 rfl (own_cell1 hO2 hlt)) rfl ?_;refine L.ret (x_call krx1_en29 rfl) rfl (get_s n0 bs bl G (ks.getD i []) _ h) ?_;rintro _ w41 ⟨rfl,hq41⟩;rw [hq41];refine L.val (x_mv (v:=_) rfl) rfl ?_;refine L.val (x_ext (v:=S _) rfl rfl) rfl ?_;refine L.val (x_ext (v:=.bool _) rfl rfl) rfl ?_;refine L.val (x_as (v:=S _) rfl) rfl ?_;refine L.val (x_as (v:=.bool _) rfl) rfl ?_;refine L.nil (thn_n (W.seq (W.region (L.val (x_mv (v:=.pointer _) rfl) rfl ?_))));refine L.val (x_mv (v:=.slice _ _ _) rfl) rfl ?_;refine L.val (x_mv (v:=.int _ _) rfl) rfl ?_;refine L.val (x_ia1 (j:=i) Tryz.underlying22 krx1_sz9 rfl rfl om_ om_) rfl ?_;refine L.val (x_ld (v:=S _) krx1_oc9 rfl (own_cell1 hO2 hlt)) rfl ?_;refine L.ret (x_call krx1_en60 rfl) rfl (get23 n0 bs' bl' G (ks.getD i []) _ h' hG om_) ?_;rintro _ w50 ⟨rfl,hw⟩;have hB:=hB.carry hw;have h:=h.carry hw;have h':=h'.carry hw;have hO2:=hO2.carry hw;refine L.val (x_mv (v:=_) rfl) rfl ?_;refine L.val (x_ext (v:=S _) rfl rfl) rfl ?_;refine L.val (x_ext (v:=.bool _) rfl rfl) rfl ?_;refine L.val (x_as (v:=S _) rfl) rfl ?_;refine L.val (x_as (v:=.bool _) rfl) rfl ?_;refine L.nil (thn_n (W.seq (W.region (L.val (x_mv (v:=S _) rfl) rfl ?_))));refine L.val (x_mv (v:=S _) rfl) rfl ?_;refine L.val (x_nes rfl rfl) rfl ?_;refine L.val (x_mv (v:=.bool _) rfl) rfl ?_;refine' L.group0 3 57 59 59 56 false rfl ?_ ?_ ?_;rotate_left 1
      ·intro g56;have h56:=sne_f g56;refine L.gyes' (dj:=56) (b:=_) rfl rfl g56 ?_;refine L.val (x_mv (v:=.bool _) rfl) rfl ?_;refine L.gyes' (dj:=56) (b:=_) rfl rfl g56 ?_;refine L.val (x_mv (v:=.bool _) rfl) rfl ?_;refine L.gyes' (dj:=56) (b:=_) rfl rfl g56 ?_;refine L.val (x_neb Tryz.underlying4 rfl rfl) rfl ?_;refine L.nil (thn_n ⟨rfl,rfl,?_,rfl⟩);repeat (first | exact jeq.refl _ _ _ | refine jeq.upd rfl ?_ | refine jeq.jk rfl rfl ?_)
      ·intro g56;(iterate 3 refine L.gno (dj:=56) (b:=_) rfl rfl g56 rfl ?_);refine L.nil (thn_n ⟨rfl,rfl,?_⟩);repeat (first | exact jeq.refl _ _ _ | refine jeq.upd rfl ?_ | refine jeq.jk rfl rfl ?_)
      intro J56 j56;refine L.val (x_or rfl j56) rfl ?_;refine L.nil (thn_n (W.cond (b:=_) rfl (fun g60=>?_) (fun g60=>?_)))
      ·have h60:=g60;simp at g60
      ·have h60:=g60;refine W.skip (blk_n (thn_n (W.region (L.val (x_mv (v:=.int _ _) rfl) rfl ?_))));refine L.val (x_add rfl rfl (wr64 om_)) rfl ?_;refine L.val (x_as (v:=.int _ _) rfl) rfl ?_;refine L.nil (thn_n ⟨rfl,?_⟩);refine ⟨_,?_,i+1,rfl,vi_,vi_,vi_,vi_,ao_,ao_,ao_,ao_,ao_⟩;omega
     ·have h32:=dlt_f g32;refine W.exit (thn_x (thn_x (blk_hit ?_)));refine thn_n (W.seq (W.region (L.val (x_as (v:=.bool _) rfl) rfl ?_)));refine L.nil (thn_n (W.ret (fin_mk (.inr rfl) ?_)));exact ⟨rfl,hB⟩
end Go.Gx
namespace Go.Gx
open Go.Proofs Go.Sort
theorem krx2_en27:Go.Proofs.Enters Tryz.prog 27:=Go.Proofs.enters_of Tryz.func27 kr_ rfl
theorem krx2_en28:Go.Proofs.Enters Tryz.prog 28:=Go.Proofs.enters_of Tryz.func28 kr_ rfl
theorem krx2_en38:Go.Proofs.Enters Tryz.prog 38:=Go.Proofs.enters_of Tryz.func38 kr_ rfl
theorem krx2_en39:Go.Proofs.Enters Tryz.prog 39:=Go.Proofs.enters_of Tryz.func39 kr_ rfl
theorem krx2_en7:Go.Proofs.Enters Tryz.prog 7:=Go.Proofs.enters_of Tryz.func7 kr_ rfl
theorem Dg.lowR {ty:TypeId→Bool} {n0:Nat} {w w':World} (g:Dg ty n0 w w'):Gr (fun k=>n0≤k) w w':=Gr.mono g fun _ _ e=>e.1
theorem Rt.lowR {ty:TypeId→Bool} {n0 bp:Nat} {w w':World} (g:Rt ty n0 bp w w') (hb:n0≤bp):Gr (fun k=>n0≤k) w w':=Gr.mono g fun _ _ e=>e.elim (fun e=>by rw [e];exact hb) (fun e=>e.1)
theorem Bel.lowR {n0:Nat} {w w':World} (g:Bel w w'):Gr (fun k=>n0≤k) w w':=Gr.mono g fun _ _ f=>f.elim
theorem may_keys {G:List Ed} (h:mayL G=true):∀ e∈G,e.key.length≤1000:=fun e he=>by
  unfold mayL at h;have:=mayE_len (List.all_eq_true.1 h e he);omega
theorem opened23_e (n0 b b' bp':Nat) (D E:Dk) (K K':Fl) (w:World) (h:DiskF n0 w b D K) (h':RDisk n0 w b' bp' E K') (he:openG (bt E)=openG (bt D)) (h6:6≤D.pl.length) (h6':6≤E.pl.length) (hn:n0≤w.heap.size) (ho:(openG (bt D)).1≠0):
    Ret Tryz.prog 11 #[.pointer (some ⟨b,0,none⟩),.pointer (some ⟨b',0,none⟩)] w fun v w'=>v=.tuple #[.pointer none,.pointer none,.bool true]∧DiskF n0 w' b (bt D) K∧RDisk n0 w' b' bp' (bt E) K'∧Gr (fun k=>n0≤k) w w':=by
  have hbp:=h'.2.1;refine ret_of_W Tryz.func11 rfl (Nat.le_of_ble_eq_true rfl) (res3 rfl) ?_;have hB:=Gr.refl (fun _=>False) w;have hG:=Gr.refl (fun k=>n0≤k) w;refine W.seq (W.region (L.val (x_as (v:=.pointer _) rfl) rfl ?_));refine L.val (x_as (v:=.pointer _) rfl) rfl ?_;refine L.val (x_as (v:=.bool _) rfl) rfl ?_;refine L.nil (thn_n (W.seq (W.region (L.val (x_mv (v:=.pointer _) rfl) rfl ?_))));refine L.ret (x_call krx2_en38 rfl) rfl (boot_f n0 b D K _ h) ?_;rintro _ w12 ⟨rfl,h12,hg12⟩;have hG:=hG.trans hg12.lowR;have h':=h'.st (Dg.mono (Dg.mono hg12 lg_of_dk) st_of_lg);have h:DiskF n0 w12 b (bt D) K:=h12;have hB:=Gr.refl (fun _=>False) w12;refine L.nil (thn_n (W.seq (W.region (L.val (x_mv (v:=.pointer _) rfl) rfl ?_))));refine L.ret (x_call krx2_en39 rfl) rfl (boot19 n0 b' bp' E K' _ h') ?_;rintro _ w14 ⟨rfl,h14,hg14⟩;have hG:=hG.trans (hg14.lowR hbp);have h:=h.rs h' (hg14.mono rs_of_rk);have h':RDisk n0 w14 b' bp' (bt E) K':=h14;have hB:=Gr.refl (fun _=>False) w14;refine L.nil (thn_n (W.seq (W.region (L.val (x_mv (v:=.pointer _) rfl) rfl ?_))));refine L.ret (x_call krx2_en28 rfl) rfl (sopen_g n0 b (bt D) _ h.at rfl h6 h.2.1) ?_;rintro v17 w17 ⟨hw,hr17⟩;have hB:=hB.carry hw;have h:=h.carry hw;have h':=h'.carry hw;have hG:=hG.carry hw;obtain ⟨-,rfl⟩:=hr17.resolve_right (fun e=>ho e.1);refine L.val (x_mv (v:=_) rfl) rfl ?_;refine L.val (x_ext (v:=.pointer _) rfl rfl) rfl ?_;refine L.val (x_ext (v:=.int _ _) rfl rfl) rfl ?_;refine L.val (x_as (v:=.pointer _) rfl) rfl ?_;refine L.val (x_as (v:=.int _ _) rfl) rfl ?_;refine L.nil (thn_n (W.seq (W.region (L.val (x_mv (v:=.pointer _) rfl) rfl ?_))));refine L.ret (x_call krx2_en7 rfl) rfl (open23 n0 b' bp' (bt E) K' _ h' rfl h6') ?_;rintro v22 w22 ⟨hw,hr22⟩;have hB:=hB.carry hw;have h:=h.carry hw;have h':=h'.carry hw;have hG:=hG.carry hw;rw [he] at hr22;obtain ⟨-,rfl⟩:=hr22.resolve_right (fun e=>ho e.1);refine L.val (x_mv (v:=_) rfl) rfl ?_;refine L.val (x_ext (v:=.pointer _) rfl rfl) rfl ?_;refine L.val (x_ext (v:=.int _ _) rfl rfl) rfl ?_;refine L.val (x_as (v:=.pointer _) rfl) rfl ?_;refine L.val (x_as (v:=.int _ _) rfl) rfl ?_;refine L.nil (thn_n (W.seq (W.seq (W.region (L.val (x_mv (v:=.int _ _) rfl) rfl ?_)))));refine L.val (x_mv (v:=.int _ _) rfl) rfl ?_;refine L.val (x_neq rfl rfl) rfl ?_;refine L.val (x_mv (v:=.bool _) rfl) rfl ?_;refine L.splitat (dj:=28) (b:=_) rfl (fun g28=>?_) (fun g28=>?_)
  ·have h28:=dne_t g28;exact absurd rfl h28
  ·have h28:=dne_f g28;refine L.gyes' (dj:=28) (b:=_) rfl rfl g28 ?_;refine L.val (x_mv (v:=.pointer _) rfl) rfl ?_;refine L.gyes' (dj:=28) (b:=_) rfl rfl g28 ?_;refine L.val (x_eqp0 Tryz.underlying40 rfl rfl) rfl ?_;refine L.gyes' (dj:=28) (b:=_) rfl rfl g28 ?_;refine L.val (x_mv (v:=.pointer _) rfl) rfl ?_;refine L.gyes' (dj:=28) (b:=_) rfl rfl g28 ?_;refine L.val (x_eqp0 Tryz.underlying27 rfl rfl) rfl ?_;refine L.gyes' (dj:=28) (b:=_) rfl rfl g28 ?_;refine L.val (x_neb Tryz.underlying4 rfl rfl) rfl ?_;refine L.val (x_pick_f (v:=.bool _) (congrArg Value.bool g28) rfl) rfl ?_;refine L.nil (thn_n (W.cond (b:=_) rfl (fun g33=>?_) (fun g33=>?_)))
   ·have h33:=g33;cases g33
   ·have h33:=g33;refine W.skip (thn_n (W.seq (W.region ?_)));(iterate 3 refine L.val (x_mv (v:=.pointer _) rfl) rfl ?_);refine L.val (x_eqp0 Tryz.underlying27 rfl rfl) rfl ?_;refine L.val (x_mv (v:=.bool _) rfl) rfl ?_;refine L.splitat (dj:=39) (b:=_) rfl (fun g39=>?_) (fun g39=>?_)
    ·have h39:=g39;(iterate 3 refine L.gno (dj:=39) (b:=_) rfl rfl g39 rfl ?_);refine L.val (x_pick_t (v:=.bool _) (congrArg Value.bool g39) rfl) rfl ?_;refine L.val (x_as (v:=.pointer _) rfl) rfl ?_;refine L.val (x_as (v:=.pointer _) rfl) rfl ?_;refine L.val (x_as (v:=.bool _) rfl) rfl ?_;refine L.nil (thn_n (W.ret (fin_mk (.inr rfl) ?_)));exact ⟨rfl,h,h',hG⟩
    ·have h39:=g39;cases g39
theorem opened23_0 (n0 b b' bp':Nat) (D E:Dk) (K K':Fl) (w:World) (h:DiskF n0 w b D K) (h':RDisk n0 w b' bp' E K') (he:openG (bt E)=openG (bt D)) (h6:6≤D.pl.length) (h6':6≤E.pl.length) (hn:n0≤w.heap.size) (ho:(openG (bt D)).1=0):
    Ret Tryz.prog 11 #[.pointer (some ⟨b,0,none⟩),.pointer (some ⟨b',0,none⟩)] w fun v w'=>(∃ bs bl bs' bl',v=.tuple #[.pointer (some ⟨bs,0,none⟩),.pointer (some ⟨bs',0,none⟩),.bool true]∧LogB n0 w' bl b (openG (bt D)).2.1 false∧StoAt n0 w' bs bl (openG (bt D)).2.2∧RLog n0 w' bl' b' (openG (bt D)).2.1 false∧RSto n0 w' bs' bl' (openG (bt D)).2.2)∧DiskF n0 w' b (bt D) K∧RDisk n0 w' b' bp' (bt E) K'∧Gr (fun k=>n0≤k) w w':=by
  have hbp:=h'.2.1;obtain ⟨-,-,-,-,hri,hmy,hsz⟩:=openG_ok h.2.1.bt h6 ho;have hsm:=h.2.1.small;have hroom:roomN (bt D).pl.length≤131008:=by show hlf D.pl.length * 64≤_;unfold hlf;omega
  have hgl:=len_sizG (openG (bt D)).2.2;have hkeys:=may_keys hmy;refine ret_of_W Tryz.func11 rfl (Nat.le_of_ble_eq_true rfl) (res3 rfl) ?_;have hB:=Gr.refl (fun _=>False) w;have hG:=Gr.refl (fun k=>n0≤k) w;refine W.seq (W.region (L.val (x_as (v:=.pointer _) rfl) rfl ?_));refine L.val (x_as (v:=.pointer _) rfl) rfl ?_;refine L.val (x_as (v:=.bool _) rfl) rfl ?_;refine L.nil (thn_n (W.seq (W.region (L.val (x_mv (v:=.pointer _) rfl) rfl ?_))));refine L.ret (x_call krx2_en38 rfl) rfl (boot_f n0 b D K _ h) ?_;rintro _ w12 ⟨rfl,h12,hg12⟩;have hG:=hG.trans hg12.lowR;have h':=h'.st (Dg.mono (Dg.mono hg12 lg_of_dk) st_of_lg);have h:DiskF n0 w12 b (bt D) K:=h12;have hB:=Gr.refl (fun _=>False) w12;refine L.nil (thn_n (W.seq (W.region (L.val (x_mv (v:=.pointer _) rfl) rfl ?_))));refine L.ret (x_call krx2_en39 rfl) rfl (boot19 n0 b' bp' E K' _ h') ?_;rintro _ w14 ⟨rfl,h14,hg14⟩;have hG:=hG.trans (hg14.lowR hbp);have h:=h.rs h' (hg14.mono rs_of_rk);have h':RDisk n0 w14 b' bp' (bt E) K':=h14;have hB:=Gr.refl (fun _=>False) w14;refine L.nil (thn_n (W.seq (W.region (L.val (x_mv (v:=.pointer _) rfl) rfl ?_))));have hs17:n0≤w14.heap.size:=Nat.le_trans hn hG.size;refine L.ret (x_call krx2_en28 rfl) rfl (sopen_g n0 b (bt D) _ h.at rfl h6 h.2.1) ?_;rintro v17 w17 ⟨hw,hr17⟩;have hB:=hB.carry hw;have h:=h.carry hw;have h':=h'.carry hw;have hG:=hG.carry hw;obtain ⟨-,bs,bl,rfl,hl17,hs17'⟩:=hr17.resolve_left (fun e=>e.1 ho);have hl:=hl17.weak hs17;have hs:=hs17'.weak hs17;refine L.val (x_mv (v:=_) rfl) rfl ?_;refine L.val (x_ext (v:=.pointer _) rfl rfl) rfl ?_;refine L.val (x_ext (v:=.int _ _) rfl rfl) rfl ?_;refine L.val (x_as (v:=.pointer _) rfl) rfl ?_;refine L.val (x_as (v:=.int _ _) rfl) rfl ?_;refine L.nil (thn_n (W.seq (W.region (L.val (x_mv (v:=.pointer _) rfl) rfl ?_))));have hs22:n0≤w17.heap.size:=Nat.le_trans hn hG.size;refine L.ret (x_call krx2_en7 rfl) rfl (open23 n0 b' bp' (bt E) K' _ h' rfl h6') ?_;rintro v22 w22 ⟨hw,hr22⟩;have hB:=hB.carry hw;have h:=h.carry hw;have h':=h'.carry hw;have hG:=hG.carry hw;have hl:=hl.carry hw;have hs:=hs.carry hw;rw [he] at hr22;obtain ⟨-,bs',bl',rfl,hl22,hs22'⟩:=hr22.resolve_left (fun e=>e.1 ho);have hl':=hl22.weak hs22;have hs':=hs22'.weak hs22;refine L.val (x_mv (v:=_) rfl) rfl ?_;refine L.val (x_ext (v:=.pointer _) rfl rfl) rfl ?_;refine L.val (x_ext (v:=.int _ _) rfl rfl) rfl ?_;refine L.val (x_as (v:=.pointer _) rfl) rfl ?_;refine L.val (x_as (v:=.int _ _) rfl) rfl ?_;refine L.nil (thn_n (W.seq (W.seq (W.region (L.val (x_mv (v:=.int _ _) rfl) rfl ?_)))));refine L.val (x_mv (v:=.int _ _) rfl) rfl ?_;refine L.val (x_neq rfl rfl) rfl ?_;refine L.val (x_mv (v:=.bool _) rfl) rfl ?_;refine L.splitat (dj:=28) (b:=_) rfl (fun g28=>?_) (fun g28=>?_)
  ·have h28:=dne_t g28;exact absurd rfl h28
  ·have h28:=dne_f g28;refine L.gyes' (dj:=28) (b:=_) rfl rfl g28 ?_;refine L.val (x_mv (v:=.pointer _) rfl) rfl ?_;refine L.gyes' (dj:=28) (b:=_) rfl rfl g28 ?_;refine L.val (x_eqp0 Tryz.underlying40 rfl rfl) rfl ?_;refine L.gyes' (dj:=28) (b:=_) rfl rfl g28 ?_;refine L.val (x_mv (v:=.pointer _) rfl) rfl ?_;refine L.gyes' (dj:=28) (b:=_) rfl rfl g28 ?_;refine L.val (x_eqp0 Tryz.underlying27 rfl rfl) rfl ?_;refine L.gyes' (dj:=28) (b:=_) rfl rfl g28 ?_;refine L.val (x_neb Tryz.underlying4 rfl rfl) rfl ?_;refine L.val (x_pick_f (v:=.bool _) (congrArg Value.bool g28) rfl) rfl ?_;refine L.nil (thn_n (W.cond (b:=_) rfl (fun g33=>?_) (fun g33=>?_)))
   ·have h33:=g33;cases g33
   ·have h33:=g33;refine W.skip (thn_n (W.seq (W.region ?_)));(iterate 3 refine L.val (x_mv (v:=.pointer _) rfl) rfl ?_);refine L.val (x_eqp0 Tryz.underlying27 rfl rfl) rfl ?_;refine L.val (x_mv (v:=.bool _) rfl) rfl ?_;refine L.splitat (dj:=39) (b:=_) rfl (fun g39=>?_) (fun g39=>?_)
    ·have h39:=g39;cases g39
    ·have h39:=g39;refine L.gyes' (dj:=39) (b:=_) rfl rfl g39 ?_;refine L.val (x_mv (v:=.pointer _) rfl) rfl ?_;refine L.gyes' (dj:=39) (b:=_) rfl rfl g39 ?_;refine L.val (x_mv (v:=.pointer _) rfl) rfl ?_;refine L.gyes' (dj:=39) (b:=_) rfl rfl g39 ?_;refine L.ret (x_call krx2_en27 rfl) rfl (same23 n0 bs bl bs' bl' (openG (bt D)).2.2 _ hs hs' hri hkeys om_ (Nat.le_trans hn hG.size)) ?_;rintro _ w42 ⟨rfl,hw⟩;have hB:=hB.carry hw;have h:=h.carry hw;have h':=h'.carry hw;have hG:=hG.carry hw;have hl:=hl.carry hw;have hs:=hs.carry hw;have hl':=hl'.carry hw;have hs':=hs'.carry hw;refine L.val (x_pick_f (v:=.bool _) (congrArg Value.bool g39) rfl) rfl ?_;refine L.val (x_as (v:=.pointer _) rfl) rfl ?_;refine L.val (x_as (v:=.pointer _) rfl) rfl ?_;refine L.val (x_as (v:=.bool _) rfl) rfl ?_;refine L.nil (thn_n (W.ret (fin_mk (.inr rfl) ?_)));exact ⟨⟨bs,bl,bs',bl',rfl,hl,hs,hl',hs'⟩,h,h',hG⟩
end Go.Gx
namespace Go.Gx
open Go.Proofs Go.Sort
def cmR (D:Dk) (K:Fl) (q:Pt) (G l:List Ed):Int × Dk × Pt:=if D.dead then (if mayL l=true then 190 else 230,D,q) else comM D K q G l
def cpR (D:Dk) (K:Fl) (q:Pt) (G:List Ed):Int × Dk × Pt:=if D.dead then (190,D,q) else turnM D K q (allB (snapL G))
structure Pln (D:Dk) (K K':Fl) (q:Pt) (G:List Ed) (i n m:Nat):Prop where
  pl:D.pl.length=n
  arm:D.armed≤9223372036854775807
  quiet:D.dead=true→D.armed=0
  same:D.armed=0∨K=K'
  ca:D.ca=[]
  ops:D.ops≤10000 * i
  half:q.half≤1
  tail:q.tail≤roomN n
  ep:q.ep<18446744073709551616
  cnt:q.cnt≤1000000+i
  rises:Rises G
  may:mayL G=true
  siz:sizG G≤30000+3 * m
section
variable {D:Dk} {K K' K2:Fl} {q:Pt} {G l:List Ed} {i n m:Nat}
theorem Pln.qm (h:Pln D K K' q G i n m) (hn:6≤n∧n≤95) (hi:i≤1000) (hd:D.dead=false):QM D q:=
  ⟨by rw [h.pl];omega,hd,h.ca,by have:=h.ops;omega,h.half,by rw [h.pl];exact h.tail,h.ep,by have:=h.cnt;omega⟩
theorem comM_code (hd:D.dead=false):(comM D K q G l).1=0→mayL l=true:=by
  unfold comM;intro h;split at h
  · assumption
  · exact absurd (show (230:Int)=0 from h) (by decide)
theorem Pln.cm (h:Pln D K K' q G i n m):cmR D K q G l=cmR D K' q G l:=by
  unfold cmR;rcases h.same with e | e
  · rw [comM_same e K K']
  · rw [e]
theorem Pln.cp (h:Pln D K K' q G i n m):cpR D K q G=cpR D K' q G:=by
  unfold cpR;rcases h.same with e | e
  · rw [turnM_same e K K']
  · rw [e]
theorem Pln.of_rd {r:Int × Dk × Pt} {G2:List Ed} {m2:Nat} (h:Pln D K K' q G i n m) (hr:Rd D q 3000 (1000000+(i+1)) r) (hK:r.2.1.dead=false→K2=K) (hG:Rises G2) (hM:mayL G2=true) (hs:sizG G2≤30000+3 * m2):Pln r.2.1 K2 K' r.2.2 G2 (i+1) n m2:=by
  refine ⟨hr.pl.trans h.pl,Nat.le_trans hr.arm h.arm,hr.quiet,?_,hr.ca,by have:=hr.ops;have:=h.ops;omega,hr.half,by have:=hr.tail;rw [h.pl] at this;exact this,hr.ep,hr.cnt,hG,hM,hs⟩;cases hd:r.2.1.dead with
  | true=>exact .inl (hr.quiet hd)
  | false=>
    rcases h.same with e | e
    · exact .inl (by have:=hr.arm;omega)
    · exact .inr ((hK hd).trans e)
theorem Pln.stay {i2 m2:Nat} (h:Pln D K K' q G i n m) (hi:i≤i2) (hm:m≤m2) (hK:D.dead=false→K2=K):Pln D K2 K' q G i2 n m2:=by
  refine ⟨h.pl,h.arm,h.quiet,?_,h.ca,by have:=h.ops;omega,h.half,h.tail,h.ep,by have:=h.cnt;omega,h.rises,h.may,by have:=h.siz;omega⟩;cases hd:D.dead with
  | true=>exact .inl (h.quiet hd)
  | false=>rw [hK hd];exact h.same
theorem Pln.commit (h:Pln D K K' q G i n m) (hok:DkOk D) (hn:6≤n∧n≤95) (hi:i≤1000) (hm:m≤60000) (hl:l.length≤10000) (hK:(cmR D K' q G l).2.1.dead=false→K2=K):
    Pln (cmR D K' q G l).2.1 K2 K' (cmR D K' q G l).2.2 (if (cmR D K' q G l).1=0 then comes G l else G) (i+1) n (m+200+costE l):=by
  unfold cmR at hK ⊢;by_cases hd:D.dead=true
  · rw [if_pos hd] at hK ⊢;dsimp only at hK ⊢;have hne:¬ (if mayL l=true then (190:Int) else 230)=0:=by split <;> decide
    rw [if_neg hne];exact h.stay om_ om_ hK
  · rw [if_neg hd] at hK ⊢;have hd:D.dead=false:=by simpa using hd
    have hgl:=len_sizG G;have hs:=h.siz;have hcl:=comes_len l G;have hcz:=sizG_comes l G;refine h.of_rd (com_rd hok (h.qm hn hi hd) (by have:=h.cnt;omega) om_) hK ?_ ?_ ?_
    · split
      · exact comes_rises h.rises
      · exact h.rises
    · split
      · rename_i hc;exact may_comes h.may (comM_code hd hc)
      · exact h.may
    · split
      · rename_i hc;have:=costE_siz (comM_code hd hc);omega
      · omega
theorem Pln.compact (h:Pln D K K' q G i n m) (hok:DkOk D) (hn:6≤n∧n≤95) (hi:i≤1000) (hm:m≤60000) {c:Nat} (hK:(cpR D K' q G).2.1.dead=false→K2=K):
    Pln (cpR D K' q G).2.1 K2 K' (cpR D K' q G).2.2 G (i+1) n (m+c):=by
  unfold cpR at hK ⊢;by_cases hd:D.dead=true
  · rw [if_pos hd] at hK ⊢;exact h.stay om_ om_ hK
  · rw [if_neg hd] at hK ⊢;have hd:D.dead=false:=by simpa using hd
    have hgl:=len_sizG G;have hs:=h.siz;exact h.of_rd (turn_rd hok (h.qm hn hi hd) (by have:=h.cnt;omega) (by unfold allB snapL;rw [List.length_map,List.length_map];omega)) hK h.rises h.may om_
theorem Pln.armed (h:Pln D K K' q G i n m) (K1:Fl) {a:Int} (ha:a≤9223372036854775807) {c:Nat}:Pln (arG D a) (arK D a K K1) (arK D a K' K1) q G (i+1) n (m+c):=by
  unfold arG arK;by_cases hd:D.dead=true
  · rw [if_pos hd,if_pos hd,if_pos hd];exact h.stay om_ om_ (fun _=>rfl)
  · rw [if_neg hd,if_neg hd,if_neg hd];by_cases h0:a<0
    · rw [if_pos h0,if_pos h0,if_pos h0];exact h.stay om_ om_ (fun _=>rfl)
    · rw [if_neg h0,if_neg h0,if_neg h0];exact ⟨h.pl,by show a.toNat≤_;omega,fun e=>absurd e hd,.inr rfl,h.ca,by show D.ops≤_;have:=h.ops;omega,h.half,h.tail,h.ep,by have:=h.cnt;omega,h.rises,h.may,by have:=h.siz;omega⟩
structure Pld (D:Dk) (K K':Fl) (i n:Nat):Prop where
  pl:D.pl.length=n
  arm:D.armed≤9223372036854775807
  quiet:D.dead=true→D.armed=0
  same:D.armed=0∨K=K'
  ca:D.ca.length≤1∧(D.dead=true→D.ca=[])
  ops:D.ops≤10000 * i+2
theorem Pln.d (h:Pln D K K' q G i n m):Pld D K K' i n:=⟨h.pl,h.arm,h.quiet,h.same,⟨by rw [h.ca];decide,fun _=>h.ca⟩,by have:=h.ops;omega⟩
theorem wrG_same (h:D.armed=0∨K=K') (a:Int) (s:Str):wrG D K a s=wrG D K' a s:=by
  unfold wrG;rcases h with e | e
  · rw [(wrF_same e K K' a.toNat s).1]
  · rw [e]
theorem flG_same (h:D.armed=0∨K=K'):flG D K=flG D K':=by
  unfold flG;rcases h with e | e
  · rw [(flF_same e K K').1]
  · rw [e]
theorem wrG_d (h:Pln D K K' q G i n m) (a:Int) (s:Str) (hK:(wrG D K' a s).dead=false→K2=K):Pld (wrG D K' a s) K2 K' i n∧(wrG D K' a s).ops≤D.ops+1:=by
  have hst:∀ (_:D.dead=false→K2=K),Pld D K2 K' i n∧D.ops≤D.ops+1:=fun hk=>⟨(h.stay (Nat.le_refl _) (Nat.le_refl _) hk).d,Nat.le_add_right _ _⟩
  unfold wrG at hK ⊢;split
  · rename_i hd;rw [if_pos hd] at hK;exact hst hK
  · rename_i hd
    rw [if_neg hd] at hK;split
    · rename_i hr;rw [if_pos hr] at hK;exact hst hK
    · rename_i hr
      rw [if_neg hr] at hK;split
      · rename_i hs;rw [if_pos hs] at hK;exact hst hK
      · rename_i hs
        rw [if_neg hs] at hK;have hd:D.dead=false:=by simpa using hd
        have ho:=h.ops;unfold wrF at hK ⊢;split
        · exact ⟨⟨(dropL_len _ _ _ _).trans h.pl,Nat.zero_le _,fun _=>rfl,.inl rfl,⟨Nat.zero_le _,fun _=>rfl⟩,by show D.ops+1≤_;omega⟩,Nat.le_refl _⟩
        · rename_i h1
          rw [if_neg h1] at hK;refine ⟨⟨h.pl,by show D.armed - 1≤_;have:=h.arm;omega,(fun e=>by rw [show D.dead=true from e] at hd;cases hd),?_,⟨by show (D.ca++_).length≤1;rw [h.ca];exact Nat.le_refl _,fun e=>by rw [show D.dead=true from e] at hd;cases hd⟩,by show D.ops+1≤_;omega⟩,Nat.le_refl _⟩;rcases h.same with e | e
          · exact .inl (by show D.armed - 1=0;omega)
          · exact .inr ((hK hd).trans e)
theorem flG_d {D1:Dk} {o:Nat} (h:Pld D1 K K' i n) (ho:D1.ops≤o) (hK:(flG D1 K').dead=false→K2=K):(flG D1 K').pl.length=n∧(flG D1 K').armed≤9223372036854775807∧((flG D1 K').armed=0∨K2=K')∧(flG D1 K').ca=[]∧(flG D1 K').ops≤o+1:=by
  unfold flG at hK ⊢;split
  · rename_i hd
    exact ⟨h.pl,h.arm,.inl (h.quiet hd),h.ca.2 hd,by omega⟩
  · rename_i hd
    rw [if_neg hd] at hK;have hd:D1.dead=false:=by simpa using hd
    unfold flF at hK ⊢;split
    · exact ⟨(dropL_len _ _ _ _).trans h.pl,Nat.zero_le _,.inl rfl,rfl,by show D1.ops+1≤_;omega⟩
    · rename_i h1
      rw [if_neg h1] at hK;refine ⟨(apD_len _ _).trans h.pl,by show D1.armed - 1≤_;have:=h.arm;omega,?_,rfl,by show D1.ops+1≤_;omega⟩;rcases h.same with e | e
      · exact .inl (by show D1.armed - 1=0;omega)
      · exact .inr ((hK hd).trans e)
theorem openA_cnt {D:Dk} (h:DkOk D) (h6:6≤D.pl.length) (ho:(openA D).1=0):(openA D).2.1.cnt≤1000000:=by
  cases hn:(!(hdP D 2).2 && !frS D 2) with
  | true=>rw [openA_none hn] at ho;cases ho
  | false=>
    have e:=openA_some hn;split at e
    · rename_i hs
      obtain ⟨-,hh,ht⟩:=hdP_ok D 2;have hsm:=h.small;have hst:=stN_le h6 hh;have hrN:roomN D.pl.length=hlf D.pl.length * 64:=rfl;have hl:(allA D (hdP D 2).1).length≤(hdP D 2).1.tail:=by
        have harea:(areaS D (hdP D 2).1 (hlf D.pl.length)).take (hdP D 2).1.tail=allA D (hdP D 2).1:=areaS_take h om_ om_ (fun i hi=>by omega);rw [← harea,List.length_take];omega
      have hc:=hs.2;have:(scanS (allA D (hdP D 2).1)).1.length≤(allA D (hdP D 2).1).length:=by
        unfold scanS frames;rw [List.length_map];have:=scanF_len (s:=allA D (hdP D 2).1) (f:=(allA D (hdP D 2).1).length+1) (k:=0) (Nat.zero_le _);omega
      rw [e];show (hdP D 2).1.cnt≤_;have:roomN D.pl.length≤1000000:=by rw [hrN];unfold hlf;omega
      omega
    · rw [e] at ho;cases ho
theorem Pln.opened {D:Dk} {m2:Nat} (hok:DkOk D) (hn:6≤n∧n≤95) (h:D.pl.length=n∧D.armed≤9223372036854775807∧(D.armed=0∨K=K')∧D.ca=[]∧D.ops≤10000 * i) (ho:(openG (bt D)).1=0):Pln (bt D) K K' (openG (bt D)).2.1 (openG (bt D)).2.2 i n m2:=by
  obtain ⟨a1,a2,a3,a4,a5⟩:=h;have h6:6≤(bt D).pl.length:=by show 6≤D.pl.length;omega
  obtain ⟨g1,-,g2,g3,g4,g5,g6⟩:=openG_ok hok.bt h6 ho;have hc:=openA_cnt hok.bt h6 g1;have hrm:roomN (bt D).pl.length=roomN n:=by show roomN D.pl.length=_;rw [a1]
  refine ⟨a1,a2,(fun e=>by cases e),a3,a4,a5,by rw [g2];exact g3.half,by rw [g2,← hrm];exact g3.tail,by rw [g2];exact g3.ep,by rw [g2];omega,g4,g5,?_⟩;rw [hrm] at g6;have:roomN n≤3000:=by show hlf n * 64≤_;unfold hlf;omega
  omega
end
end Go.Gx
namespace Go.Gx
open Go.Proofs Go.Sort
def fpTy (T:TypeId):Bool:=stTy T || rsTy T
theorem fp_of_st {ty:TypeId→Bool} {n0 bp':Nat} {w w':World} (g:Dg ty n0 w w') (h:∀ T,ty T=true→stTy T=true):Rt fpTy n0 bp' w w':=Gr.mono g fun k _ e=>.inr (DkB.mono e fun T hT=>by unfold fpTy;rw [h T hT];rfl)
theorem fp_of_rs {ty:TypeId→Bool} {n0 bp':Nat} {w w':World} (g:Rt ty n0 bp' w w') (h:∀ T,ty T=true→rsTy T=true):Rt fpTy n0 bp' w w':=g.mono fun T hT=>by unfold fpTy;rw [h T hT,Bool.or_true]
structure Two (n0:Nat) (w:World) (b bs bl b' bp' bs' bl':Nat) (D E:Dk) (K K':Fl) (q q':Pt) (G G':List Ed):Prop where
  disk:DiskF n0 w b D K
  log:LogB n0 w bl b q D.dead
  sto:StoAt n0 w bs bl G
  rdisk:RDisk n0 w b' bp' E K'
  rlog:RLog n0 w bl' b' q' E.dead
  rsto:RSto n0 w bs' bl' G'
section
variable {n0 b bs bl b' bp' bs' bl' i n m:Nat} {w w':World} {D E:Dk} {K K' K1:Fl} {q q':Pt} {G G' l:List Ed} {A:Nat→Prop} {v:Value}
theorem Two.carry (h:Two n0 w b bs bl b' bp' bs' bl' D E K K' q q' G G') (g:Bel w w'):Two n0 w' b bs bl b' bp' bs' bl' D E K K' q q' G G':=
  ⟨h.disk.bel g,h.log.carry g,h.sto.carry g,h.rdisk.bel g,h.rlog.carry g,h.rsto.carry g⟩
theorem Two.bel (h:Two n0 w b bs bl b' bp' bs' bl' D E K K' q q' G G') (g:Bel w w'):Two n0 w' b bs bl b' bp' bs' bl' D E K K' q q' G G':=h.carry g
theorem sizes (hP:Pln D K K1 q G i n m) (hm:m≤60000) (hc:costE l≤60000):G.length≤7000∧(mayL l=true→need (allB (snapL (comes G l)))≤10000000)∧need (allB (snapL G))≤10000000:=by
  have h1:=len_sizG G;have h2:=hP.siz;have h3:=sizG_comes l G;have h4:=need_snap hP.may;refine ⟨by omega,fun h=>?_,by omega⟩;have h5:=need_snap (may_comes hP.may h);have h6:=costE_siz h;omega
theorem p_commit (h:Two n0 w b bs bl b' bp' bs' bl' D E K K' q q' G G') (hP:Pln D K K1 q G i n m) (hn:6≤n∧n≤95) (hi:i≤1000) (hm:m≤60000) (hs:EdsAt A w v l) (hn0:n0≤w.heap.size) (hl:l.length≤10000) (hc:costE l≤60000):
    Ret Tryz.prog 15 #[.pointer (some ⟨bs,0,none⟩),v] w fun v w'=>v=.int .i64 (cmR D K q G l).1∧(∃ K2,Two n0 w' b bs bl b' bp' bs' bl' (cmR D K q G l).2.1 E K2 K' (cmR D K q G l).2.2 q' (if (cmR D K q G l).1=0 then comes G l else G) G'∧((cmR D K q G l).2.1.dead=false→K2=K))∧Rt fpTy n0 bp' w w':=by
  obtain ⟨z1,z2,-⟩:=sizes (l:=l) hP hm hc;have hcl:=comes_len l G;unfold cmR;by_cases hd:D.dead=true
  · rw [if_pos hd];refine (scommit_d n0 bs bl b A v l D q D.dead G w h.disk.at h.log hd h.sto hP.rises hP.may hs hn0 hl om_).mono fun v w' ⟨h1,h2⟩=>⟨h1,⟨K,?_,fun _=>rfl⟩,Rt.of_bel h2⟩
    have hne:¬ (if mayL l=true then (190:Int) else 230)=0:=by split <;> decide
    dsimp only;rw [if_neg hne];exact h.carry h2
  · rw [if_neg hd];have hd:D.dead=false:=by simpa using hd
    refine (scommit_m n0 bs bl b A v l D K q G w h.disk (hd ▸ h.log) (hP.qm hn hi hd) hP.arm h.sto hP.rises hP.may hs hn0 hl om_ z2).mono fun v w' ⟨h1,⟨K2,h2,h3⟩,h4,h5,g⟩=>⟨h1,⟨K2,⟨h2,h4,h5,h.rdisk.st g,h.rlog.st g,h.rsto.st g⟩,h3⟩,fp_of_st g fun _ h=>h⟩
theorem p_compact (h:Two n0 w b bs bl b' bp' bs' bl' D E K K' q q' G G') (hP:Pln D K K1 q G i n m) (hn:6≤n∧n≤95) (hi:i≤1000) (hm:m≤60000) (hn0:n0≤w.heap.size):
    Ret Tryz.prog 17 #[.pointer (some ⟨bs,0,none⟩)] w fun v w'=>v=.int .i64 (cpR D K q G).1∧(∃ K2,Two n0 w' b bs bl b' bp' bs' bl' (cpR D K q G).2.1 E K2 K' (cpR D K q G).2.2 q' G G'∧((cpR D K q G).2.1.dead=false→K2=K))∧Rt fpTy n0 bp' w w':=by
  obtain ⟨z1,-,z2⟩:=sizes (l:=[]) hP hm (by decide);unfold cpR;by_cases hd:D.dead=true
  · rw [if_pos hd];exact (scompact_d n0 bs bl b D q D.dead G w h.disk.at h.log hd h.sto hP.rises hP.may om_).mono fun v w' ⟨h1,h2⟩=>⟨h1,⟨K,h.carry h2,fun _=>rfl⟩,Rt.of_bel h2⟩
  · rw [if_neg hd];have hd:D.dead=false:=by simpa using hd
    exact (scompact_m n0 bs bl b D K q G w h.disk (hd ▸ h.log) (hP.qm hn hi hd) hP.arm h.sto hP.rises hP.may hn0 om_ z2).mono fun v w' ⟨h1,⟨K2,h2,h3⟩,h4,h5,g⟩=>⟨h1,⟨K2,⟨h2,h4,h5,h.rdisk.st g,h.rlog.st g,h.rsto.st g⟩,h3⟩,fp_of_st g fun _ h=>h⟩
theorem r_commit (h:Two n0 w b bs bl b' bp' bs' bl' D E K K' q q' G G') (hP:Pln E K1 K' q' G' i n m) (hn:6≤n∧n≤95) (hi:i≤1000) (hm:m≤60000) (hs:EdsAt A w v l) (hn0:n0≤w.heap.size) (hl:l.length≤10000) (hc:costE l≤60000):
    Ret Tryz.prog 16 #[.pointer (some ⟨bs',0,none⟩),v] w fun v w'=>v=.int .i64 (cmR E K' q' G' l).1∧Two n0 w' b bs bl b' bp' bs' bl' D (cmR E K' q' G' l).2.1 K K' q (cmR E K' q' G' l).2.2 G (if (cmR E K' q' G' l).1=0 then comes G' l else G')∧Rt fpTy n0 bp' w w':=by
  obtain ⟨z1,z2,-⟩:=sizes (l:=l) hP hm hc;unfold cmR;by_cases hd:E.dead=true
  · rw [if_pos hd];refine (commit23d n0 bs' bl' b' bp' A v l E K' q' E.dead G' w h.rdisk h.rlog hd h.rsto hs hl om_).mono fun v w' ⟨h1,h2⟩=>⟨h1,?_,Rt.of_bel h2⟩
    have hne:¬ (if mayL l=true then (190:Int) else 230)=0:=by split <;> decide
    dsimp only;rw [if_neg hne];exact h.carry h2
  · rw [if_neg hd];have hd:E.dead=false:=by simpa using hd
    exact (commit23 n0 bs' bl' b' bp' A v l E K' q' G' w h.rdisk (hd ▸ h.rlog) (hP.qm hn hi hd) hP.arm h.rsto hP.may hs hn0 hl om_ z2).mono fun v w' ⟨h1,h2,h4,h5,g⟩=>⟨h1,⟨h.disk.rs h.rdisk g,h.log.rs h.rdisk g,h.sto.rs h.rdisk g,h2,h4,h5⟩,fp_of_rs g fun _ h=>h⟩
theorem r_compact (h:Two n0 w b bs bl b' bp' bs' bl' D E K K' q q' G G') (hP:Pln E K1 K' q' G' i n m) (hn:6≤n∧n≤95) (hi:i≤1000) (hm:m≤60000) (hn0:n0≤w.heap.size):
    Ret Tryz.prog 18 #[.pointer (some ⟨bs',0,none⟩)] w fun v w'=>v=.int .i64 (cpR E K' q' G').1∧Two n0 w' b bs bl b' bp' bs' bl' D (cpR E K' q' G').2.1 K K' q (cpR E K' q' G').2.2 G G'∧Rt fpTy n0 bp' w w':=by
  obtain ⟨z1,-,z2⟩:=sizes (l:=[]) hP hm (by decide);unfold cpR;by_cases hd:E.dead=true
  · rw [if_pos hd];exact (compact23d n0 bs' bl' b' bp' E K' q' E.dead G' w h.rdisk h.rlog hd h.rsto hP.may om_).mono fun v w' ⟨h1,h2⟩=>⟨h1,h.carry h2,Rt.of_bel h2⟩
  · rw [if_neg hd];have hd:E.dead=false:=by simpa using hd
    exact (compact23 n0 bs' bl' b' bp' E K' q' G' w h.rdisk (hd ▸ h.rlog) (hP.qm hn hi hd) hP.arm h.rsto hP.may hn0 om_ z2).mono fun v w' ⟨h1,h2,h4,h5,g⟩=>⟨h1,⟨h.disk.rs h.rdisk g,h.log.rs h.rdisk g,h.sto.rs h.rdisk g,h2,h4,h5⟩,fp_of_rs g fun _ h=>h⟩
theorem arG_dead (D:Dk) (a:Int):(arG D a).dead=D.dead:=by
  unfold arG;split
  · rfl
  · split <;> rfl
theorem st_of_dk {T:TypeId} (h:dkTy T=true):stTy T=true:=st_of_lg T (lg_of_dk T h)
theorem p_arm (h:Two n0 w b bs bl b' bp' bs' bl' D E K K' q q' G G') (a:Int) (vk:Value) (Kz:Fl) (hz:BlsAt (fun k=>n0≤k) w vk Kz.keep):
    Ret Tryz.prog 19 #[.pointer (some ⟨b,0,none⟩),.int .i64 a,.agg #[vk,.int .i64 Kz.torn,.int .i64 Kz.cut]] w fun v w'=>v=.int .i64 (arE D a)∧Two n0 w' b bs bl b' bp' bs' bl' (arG D a) E (arK D a K Kz) K' q q' G G'∧Rt fpTy n0 bp' w w':=
  (arm_g n0 b (fun k=>n0≤k) a vk K Kz D w h.disk hz h.disk.1).mono fun v w' ⟨h1,h2,g0⟩=>by
    have g:Dg stTy n0 w w':=Dg.mono g0 fun T h=>st_of_dk h
    exact ⟨h1,⟨h2,by rw [arG_dead];exact h.log.dg g0,h.sto.dk g0,h.rdisk.st g,h.rlog.st g,h.rsto.st g⟩,fp_of_st g fun _ h=>h⟩
theorem r_arm (h:Two n0 w b bs bl b' bp' bs' bl' D E K K' q q' G G') (a:Int) (vk:Value) (Kz:Fl) (hz:BlsAt (fun k=>n0≤k) w vk Kz.keep) (hn0:n0≤w.heap.size):
    Ret Tryz.prog 20 #[.pointer (some ⟨b',0,none⟩),.int .i64 a,.agg #[vk,.int .i64 Kz.torn,.int .i64 Kz.cut]] w fun v w'=>v=.int .i64 (arE E a)∧Two n0 w' b bs bl b' bp' bs' bl' D (arG E a) K (arK E a K' Kz) q q' G G'∧Rt fpTy n0 bp' w w':=
  (arm19 n0 b' bp' E K' Kz a vk w h.rdisk hz hn0).mono fun v w' ⟨h1,h2,g0⟩=>by
    have g:Rt rsTy n0 bp' w w':=g0.mono rs_of_rk;exact ⟨h1,⟨h.disk.rs h.rdisk g,h.log.rs h.rdisk g,h.sto.rs h.rdisk g,h2,by rw [arG_dead];exact h.rlog.rk h.rdisk g0,h.rsto.rk h.rdisk g0⟩,fp_of_rs g fun _ h=>h⟩
theorem p_write (h:DiskF n0 w b D K) (h':RDisk n0 w b' bp' E K') (a:Int) (s:Str) (ha:D.armed≤9223372036854775807) (hs:s.length=64) (hn0:n0≤w.heap.size) (hf:D.ca.length<100000∧D.ops<1000000000):
    Ret Tryz.prog 21 #[.pointer (some ⟨b,0,none⟩),.int .i64 a,S s] w fun v w'=>(∃ e:Int,v=.int .i64 e)∧(∃ K2,DiskF n0 w' b (wrG D K a s) K2∧((wrG D K a s).dead=false→K2=K))∧RDisk n0 w' b' bp' E K'∧Rt fpTy n0 bp' w w':=
  (write_g n0 b D K a s w h ha hs hn0 hf).mono fun v w' ⟨h1,h2,g0⟩=>by
    have g:Dg stTy n0 w w':=Dg.mono g0 fun T h=>st_of_dk h
    exact ⟨⟨_,h1⟩,h2,h'.st g,fp_of_st g fun _ h=>h⟩
theorem r_write (h:DiskF n0 w b D K) (h':RDisk n0 w b' bp' E K') (a:Int) (s:Str) (ha:E.armed≤9223372036854775807) (hs:s.length=64) (hn0:n0≤w.heap.size) (hf:E.ca.length<100000∧E.ops<1000000000):
    Ret Tryz.prog 22 #[.pointer (some ⟨b',0,none⟩),.int .i64 a,S s] w fun v w'=>(∃ e:Int,v=.int .i64 e)∧DiskF n0 w' b D K∧RDisk n0 w' b' bp' (wrG E K' a s) K'∧Rt fpTy n0 bp' w w':=
  (write19 n0 b' bp' E K' a s w h' ha hn0 hf om_).mono fun v w' ⟨h1,h2,g0⟩=>by
    have g:Rt rsTy n0 bp' w w':=g0.mono rs_of_rk;exact ⟨⟨_,h1⟩,h.rs h' g,h2,fp_of_rs g fun _ h=>h⟩
theorem p_flush (h:DiskF n0 w b D K) (h':RDisk n0 w b' bp' E K') (ha:D.armed≤9223372036854775807) (hn0:n0≤w.heap.size) (hf:D.ca.length<100000∧D.ops<1000000000):
    Ret Tryz.prog 23 #[.pointer (some ⟨b,0,none⟩)] w fun v w'=>(∃ e:Int,v=.int .i64 e)∧(∃ K2,DiskF n0 w' b (flG D K) K2∧((flG D K).dead=false→K2=K))∧RDisk n0 w' b' bp' E K'∧Rt fpTy n0 bp' w w':=
  (flush_g n0 b D K w h ha hn0 hf).mono fun v w' ⟨h1,h2,g0⟩=>by
    have g:Dg stTy n0 w w':=Dg.mono g0 fun T h=>st_of_dk h
    exact ⟨⟨_,h1⟩,h2,h'.st g,fp_of_st g fun _ h=>h⟩
theorem r_flush (h:DiskF n0 w b D K) (h':RDisk n0 w b' bp' E K') (ha:E.armed≤9223372036854775807) (hn0:n0≤w.heap.size) (hf:E.ops<1000000000):
    Ret Tryz.prog 24 #[.pointer (some ⟨b',0,none⟩)] w fun v w'=>(∃ e:Int,v=.int .i64 e)∧DiskF n0 w' b D K∧RDisk n0 w' b' bp' (flG E K') K'∧Rt fpTy n0 bp' w w':=
  (flush19 n0 b' bp' E K' w h' ha hn0 hf).mono fun v w' ⟨h1,h2,g0⟩=>by
    have g:Rt rsTy n0 bp' w w':=g0.mono rs_of_rk;exact ⟨⟨_,h1⟩,h.rs h' g,h2,fp_of_rs g fun _ h=>h⟩
theorem opened_two (h:DiskF n0 w b D K) (h':RDisk n0 w b' bp' D K') (h6:6≤D.pl.length) (hn:n0≤w.heap.size):
    Ret Tryz.prog 11 #[.pointer (some ⟨b,0,none⟩),.pointer (some ⟨b',0,none⟩)] w fun v w'=>(∃ p p',v=.tuple #[.pointer p,.pointer p',.bool true]∧(p'=none∨(openG (bt D)).1=0∧∃ bs bl bs' bl',p=some ⟨bs,0,none⟩∧p'=some ⟨bs',0,none⟩∧Two n0 w' b bs bl b' bp' bs' bl' (bt D) (bt D) K K' (openG (bt D)).2.1 (openG (bt D)).2.1 (openG (bt D)).2.2 (openG (bt D)).2.2))∧Gr (fun k=>n0≤k) w w':=by
  by_cases ho:(openG (bt D)).1=0
  · exact (opened23_0 n0 b b' bp' D D K K' w h h' rfl h6 h6 hn ho).mono fun v w' ⟨⟨bs,bl,bs',bl',e,h1,h2,h3,h4⟩,h5,h6,g⟩=>⟨⟨_,_,e,.inr ⟨ho,bs,bl,bs',bl',rfl,rfl,⟨h5,h1,h2,h6,h3,h4⟩⟩⟩,g⟩
  · exact (opened23_e n0 b b' bp' D D K K' w h h' rfl h6 h6 hn ho).mono fun v w' ⟨e,_,_,g⟩=>⟨⟨_,_,e,.inl rfl⟩,g⟩
end
end Go.Gx
