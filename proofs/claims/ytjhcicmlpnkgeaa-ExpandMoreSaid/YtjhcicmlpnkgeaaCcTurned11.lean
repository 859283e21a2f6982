/- The law's 'turned' of layer 11. Conditions: none. -/
import Derived.Test.YtjhcicmlpnkgeaaCcLawExp
import Derived.Test.YtjhcicmlpnkgeaaCcSort3
set_option linter.unusedSimpArgs false
namespace Go.Gx
open Go.Proofs Go.Sort
theorem kturned11_ag25:aggT Try.prog 25 5=true:=by kernel_rfl
theorem kturned11_el25:elT Try.prog 25 5=true:=by kernel_rfl
theorem kturned11_el9:elT Try.prog 9 1=true:=by kernel_rfl
theorem kturned11_en16:Go.Proofs.Enters Try.prog 16:=Go.Proofs.enters_of Try.func16 kr_ rfl
theorem kturned11_fo25_0:fieldOff Try.prog 25 0=some 0:=by kernel_rfl
theorem kturned11_fo25_1:fieldOff Try.prog 25 1=some 1:=by kernel_rfl
theorem kturned11_fo25_2:fieldOff Try.prog 25 2=some 2:=by kernel_rfl
theorem kturned11_fo25_3:fieldOff Try.prog 25 3=some 3:=by kernel_rfl
theorem kturned11_fo25_4:fieldOff Try.prog 25 4=some 4:=by kernel_rfl
theorem kturned11_mixed:Try.prog.follows .mixedOrders=true:=by kernel_rfl
theorem kturned11_oc22:oneCellT Try.prog 22=true:=by kernel_rfl
theorem kturned11_oc23:oneCellT Try.prog 23=true:=by kernel_rfl
theorem kturned11_oc3:oneCellT Try.prog 3=true:=by kernel_rfl
theorem kturned11_oc9:oneCellT Try.prog 9=true:=by kernel_rfl
theorem kturned11_si25:structInfo Try.prog 25=some ([(0,1),(1,1),(2,1),(3,1),(4,1)],[Value.int .i64 0,S [],S [],Value.slice none 0 0,Value.slice none 0 0]):=by kernel_rfl
theorem kturned11_sz22:(Try.prog.info? 22).map (·.size)=some 1:=by kernel_rfl
theorem kturned11_sz23:(Try.prog.info? 23).map (·.size)=some 1:=by kernel_rfl
theorem kturned11_sz25:(Try.prog.info? 25).map (·.size)=some 5:=by kernel_rfl
theorem kturned11_sz9:(Try.prog.info? 9).map (·.size)=some 1:=by kernel_rfl
theorem kturned11_zr25:(Try.prog.info? 25).bind (·.zero)=some (Value.agg [Value.int .i64 0,S [],S [],Value.slice none 0 0,Value.slice none 0 0].toArray):=by kernel_rfl
set_option maxHeartbeats 4000000 in
theorem turned11:∀ (N:Nat) (s:Sh),SizeOf.sizeOf s<N→s.size≤400→s.allB fitsS=true→∀ (A:Nat→Prop) (cs:List Value) (w:World),ShC A w cs s→
    Ret Try.prog 16 #[.agg cs.toArray] w fun v w'=>∃ cs',v=.agg cs'.toArray∧ShC (fun k=>k<w.heap.size) w' cs' s.turn∧Bel w w':=by
  intro N;induction N with
  | zero=>intro s h;omega
  | succ N ih=>
    intro s hN hM hfit A0 cs w hs0;obtain ⟨A,hs,hU⟩:∃ A:Nat→Prop,ShC A w cs s∧(∀ k,w.heap.size≤k→A k):=⟨_,hs0.up,fun _=>.inr⟩;clear hs0;obtain ⟨vn,vp,rfl,hn,hp,hof,hnm⟩:=hs.inv;obtain ⟨p,cap,row,rfl,p1,p2,p3,hr⟩:=hp;obtain ⟨pn,capn,rfl,n1,n2,n3,hL,-⟩:=id hn;have hple:=parts_le s;have hfs:s.names=[]∨s.names.length=s.parts.length:=(fits_names (by rw [Sh.allB_eq] at hfit;simp at hfit;exact hfit.1)).imp id (·.1);have hfp:allL fitsS s.parts=true:=by rw [Sh.allB_eq] at hfit;simp at hfit;exact hfit.2
    clear hs;refine ret_of_W_R Try.func16 rfl (Nat.le_of_ble_eq_true rfl) ?_;have hB:=Gr.refl (fun _=>False) w;refine W.seq (W.region (L.box (cs:=_) rfl rfl (fun w1 bx1 hw hz1=>?_)));have hB:=hB.carry hw;have hr:=hr.carry hw;have hn:=hn.carry hw;refine L.alloc (cs:=[Value.int .i64 0,S [],S [],Value.slice none 0 0,Value.slice none 0 0]) kturned11_zr25 rfl rfl (fun w2 bx2 hw hz2=>?_);have hB:=hB.carry hw;have hr:=hr.carry hw;have hn:=hn.carry hw;have bx1:=bx1.carry hw;refine L.nil (thn_n (W.seq (W.region (L.val (x_fa kturned11_fo25_0 rfl) rfl ?_))));refine L.val (x_ld (v:=.int _ _) kturned11_oc3 rfl (bx1.cell0 rfl)) rfl ?_;refine L.val (x_fa kturned11_fo25_1 rfl) rfl ?_;refine L.val (x_ld (v:=S _) kturned11_oc9 rfl (bx1.cell0 rfl)) rfl ?_;refine L.val (x_fa kturned11_fo25_2 rfl) rfl ?_;refine L.val (x_ld (v:=S _) kturned11_oc9 rfl (bx1.cell0 rfl)) rfl ?_;refine L.val (x_build (cells:=[.int _ _,S _,S _,.slice _ _ _,.slice _ _ _]) kturned11_si25 rfl rfl) rfl ?_;refine L.alloc (cs:=[Value.int .i64 0,S [],S [],Value.slice none 0 0,Value.slice none 0 0]) kturned11_zr25 rfl rfl (fun w3 bx3 hw hz3=>?_);have hB:=hB.carry hw;have hr:=hr.carry hw;have hn:=hn.carry hw;have bx1:=bx1.carry hw;have bx2:=bx2.carry hw;refine L.setRow kturned11_ag25 rfl rfl bx3 rfl rfl (by simp [Value.oneCell',S]) (fun wl11 bx3 hw hzl11=>?_);have hsz:=hB.size;have hB:=hB.set hw om_;have hr:=hr.carryR hw (fun k e=>hU k (by have:k=_:=e;omega));have hn:=hn.carryR hw (fun k e=>hU k (by have:k=_:=e;omega));have bx1:=bx1.carryR hw om_;have bx2:=bx2.carryR hw om_;obtain ⟨b3,hb3⟩:∃ b3,b3=w2.heap.size:=⟨_,rfl⟩;rw [← hb3] at bx3 ⊢;obtain ⟨b2,hb2⟩:∃ b2,b2=w1.heap.size:=⟨_,rfl⟩;rw [← hb2] at bx2 ⊢;have z1:w.heap.size<b2∧b2<b3:=by omega
    obtain ⟨base,hbase⟩:∃ base,base=wl11.heap.size:=⟨_,rfl⟩;have z2:b3<base:=by have e:wl11.heap.size=w3.heap.size:=hzl11;omega
    have hG:Ge base wl11:=by rw [hbase];exact Nat.le_refl _
    clear hb2 hb3 hz1 hz2 hz3 hzl11 hbase;refine L.nil (thn_n (W.seq (W.seq (W.region (L.val (x_as (v:=.int _ _) rfl) rfl ?_)))));refine L.nil (thn_n (W.block (W.loop (fun m' E w'=>∃ (i:Nat) (vN vP:Value),m'=s.parts.length - i∧E 1=.pointer (some ⟨w.heap.size,0,none⟩)∧E 2=.pointer (some ⟨b2,0,none⟩)∧E 3=.pointer (some ⟨b3,0,none⟩)∧E 4=.int .i64 (i:Nat)∧(Bel w w')∧(ShRow A w' p row s.parts)∧(StrsAt A w' (.slice pn s.names.length capn) s.names)∧(Box w' w.heap.size 25 [.int .i64 s.kind,S s.of,S s.name,.slice pn s.names.length capn,.slice p s.parts.length cap])∧(Box w' b2 25 [.int .i64 0,S [],S [],.slice none 0 0,.slice none 0 0])∧(Box w' b3 25 [.int .i64 s.kind,S s.of,S s.name,vN,vP])∧(Ge base w')∧(i≤s.parts.length)∧(Own w' base 9 1 vN (tN s i).length ((tN s i).map S))∧(ShsOwn (Av base w' vN vP) w' base 25 vP (tP s i))) (s.parts.length) ?_ ?_)))
    ·exact ⟨0,.slice none 0 0,.slice none 0 0,by omega,vi_,vi_,vi_,vi_,ao_,ao_,ao_,ao_,ao_,ao_,ao_,ao_,(by rw [tN_zero];exact own_nil),(by rw [tP_zero];exact ShsOwn.nil)⟩
    ·rintro _ E wL13 ⟨i,vN,vP,em,e1,e2,e3,e4,hB,hr,hn,bx1,bx2,bx3,hG,hi,hN,hP⟩;rw [upd_self e1,upd_self e2,upd_self e3,upd_self e4];refine W.seq (W.seq (W.region (L.val (x_mv (v:=.int _ _) rfl) rfl ?_)));refine L.val (x_fa kturned11_fo25_4 rfl) rfl ?_;refine L.val (x_ld (v:=.slice _ _ _) kturned11_oc23 rfl (bx1.cell0 rfl)) rfl ?_;refine L.val (x_len_slice Try.underlying23 rfl) rfl ?_;refine L.val (x_lss rfl rfl) rfl ?_;refine L.nil (thn_n (W.cond (b:=_) rfl (fun g17=>?_) (fun g17=>?_)))
     ·have h17:=of_decide_eq_true g17;refine W.skip (thn_n (W.seq (W.block (W.seq (W.region (L.val (x_fa kturned11_fo25_4 rfl) rfl ?_))))));refine L.val (x_ld (v:=.slice _ _ _) kturned11_oc23 rfl (bx1.cell0 rfl)) rfl ?_;have hip:i<s.parts.length:=by omega
      obtain ⟨bp,op,rfl,-⟩:=hr.elem hip;obtain ⟨q,hq⟩:∃ q,q=wL13.heap.size:=⟨_,rfl⟩;have hGq:Ge q wL13:=by rw [hq];exact Nat.le_refl _
      have hqb:base≤q:=by rw [hq];exact hG
      obtain ⟨aN,cN,rfl,hcN⟩:=own_shape hN;obtain ⟨xsP,hPo⟩:=hP.own;obtain ⟨aP,cP,rfl,hcP⟩:=own_shape hPo;clear hPo xsP;have hqN:=fun j h=>(Own.lt hN (j:=j) h).2
      have hqP:=fun j h=>(hP.lt (j:=j) h).2
      have hNl:=@tN_len s i;have hPl:=tP_len hi;refine L.val (x_mv (v:=.int _ _) rfl) rfl ?_;refine L.val (x_ia (j:=i) Try.underlying23 kturned11_sz25 rfl rfl om_ om_) rfl ?_;refine L.val (x_ldn (vs:=row i) kturned11_ag25 rfl (hr.five i hip) (hr.elemAt hip)) rfl ?_;refine L.ret (x_call kturned11_en16 rfl) rfl (ih _ (by have:=Sh.part_lt hip;omega) (by have:=Sh.part_size hip;omega) (allL_getD hfp hip) A _ _ (hr.each i hip)) ?_;rintro _ w25 ⟨cs25,rfl,ht,hw⟩;have hB:=hB.carry hw;have hr:=hr.carry hw;have hn:=hn.carry hw;have bx1:=bx1.carry hw;have bx2:=bx2.carry hw;have bx3:=bx3.carry hw;have hG:=hG.carry hw;have hN:=hN.carry hw;have hP:=hP.carry hw;have hGq:=hGq.carry hw;have hs25:wL13.heap.size≤w25.heap.size:=hw.size;have hqb5:q≤w25.heap.size:=hGq;have ht:ShC (Av base w25 (.slice aN (tN s i).length cN) (.slice aP (tP s i).length cP)) w25 cs25 _:=ht.up.mono (fun j _ h=>by
        rcases h with h | h | h | h
        · exact .inl (show j<wL13.heap.size by omega)
        · exact .inl (hqN j h)
        · exact .inl (hqP j h)
        · exact .inr h)
      have hGt:Ge w25.heap.size w25:=Nat.le_refl _;refine L.alloc (cs:=[Value.int .i64 0,S [],S [],Value.slice none 0 0,Value.slice none 0 0]) kturned11_zr25 rfl rfl (fun w5 bx5 hw hz5=>?_);have hB:=hB.carry hw;have hr:=hr.carry hw;have hn:=hn.carry hw;have bx1:=bx1.carry hw;have bx2:=bx2.carry hw;have bx3:=bx3.carry hw;have hG:=hG.carry hw;have hN:=hN.carry hw;have hP:=hP.carry hw;have hGq:=hGq.carry hw;have ht:=ht.carry hw;have hGt:=hGt.carry hw;obtain ⟨b5,hb5⟩:∃ b5,b5=w25.heap.size:=⟨_,rfl⟩;rw [← hb5] at bx5 ⊢;refine L.setRow kturned11_ag25 rfl rfl bx5 rfl (ShC.len ht) (ShC.one ht) (fun wl25 bx5 hw hzl25=>?_);have hsz:=hB.size;have hB:=hB.set hw om_;have hr:=hr.carryR hw (fun k e=>hU k (by have:k=_:=e;omega));have hn:=hn.carryR hw (fun k e=>hU k (by have:k=_:=e;omega));have bx1:=bx1.carryR hw om_;have bx2:=bx2.carryR hw om_;have bx3:=bx3.carryR hw om_;have hG:=hG.carryR hw;have hN:=Own.carryR hN hw (fun j hj e=>by have e:j=_:=e;have h1:=(Own.lt hN hj).1;first | omega | (have h2:=hqN j hj;omega));have hP:=hP.carryA (A':=_) hw (fun j hj e=>by have e:j=_:=e;have h1:=(hP.lt hj).1;first | omega | (have h2:=hqP j hj;omega)) (fun j e=>by have e:j=_:=e;first | exact .inl om_ | exact .inr (.inr (.inr om_))) (fun _ h=>h);have hGq:=hGq.carryR hw;have ht:=ht.carryR hw (fun j e=>by have e:j=_:=e;first | exact .inl om_ | exact .inr (.inr (.inr om_)));have hGt:=hGt.carryR hw;refine L.nil (thn_n (W.seq (W.seq (W.region (L.val (x_fa kturned11_fo25_3 rfl) rfl ?_)))));refine L.val (x_ld (v:=.slice _ _ _) kturned11_oc22 rfl (bx1.cell0 rfl)) rfl ?_;refine L.val (x_len_slice Try.underlying22 rfl) rfl ?_;refine L.val (x_eql rfl rfl) rfl ?_;refine L.nil (thn_n (W.cond (b:=_) rfl (fun g29=>?_) (fun g29=>?_)))
      ·have h29:=of_decide_eq_true g29;have hne:s.names=[]:=List.eq_nil_of_length_eq_zero om_;refine W.seq (W.region (L.val (x_fa kturned11_fo25_4 rfl) rfl ?_));refine L.val (x_ld (v:=.slice _ _ _) kturned11_oc23 rfl (bx3.cell0 rfl)) rfl ?_;refine L.val (x_ldn (vs:=cs25) kturned11_ag25 rfl ht.len (bx5.row ht.len)) rfl ?_;refine L.bs (sz:=5) (cells:=cs25) Try.underlying23 kturned11_el25 rfl (by show (partsOk 5 0 [(0,Value.agg cs25.toArray)] && decide ([((0:Nat),Value.agg cs25.toArray)].length=1) && decide (0<1) && decide (1 * 5≤16777216))=true;simp [partsOk,ht.len,Value.cells]) (by show ([((0:Nat),Value.agg cs25.toArray)].map fun x=>x.2.cells.toList).flatten=cs25;simp [Value.cells]) rfl (fun w33 bx33 hw hz33=>?_);have hB:=hB.carry hw;have hr:=hr.carry hw;have hn:=hn.carry hw;have bx1:=bx1.carry hw;have bx2:=bx2.carry hw;have bx3:=bx3.carry hw;have hG:=hG.carry hw;have hN:=hN.carry hw;have hP:=hP.carry hw;have hGq:=hGq.carry hw;have ht:=ht.carry hw;have hGt:=hGt.carry hw;have bx5:=bx5.carry hw;obtain ⟨rows,r1,r2,r3,r4⟩:=hP;refine L.append (m:=1) Try.underlying23 kturned11_el25 rfl rfl rfl r2 ht.len bx33.news (ShC.one ht) om_ hG (fun v34 w34 hO34 hg hiff34 hob34=>?_);obtain ⟨g34,c34,rfl⟩:=own_form hO34;have hlo:∀ j,some j=(Value.slice aP (tP s i).length cP).ownBlock→base≤j:=fun j hj=>(r2.lt hj).1
       have hP:=ShsOwn.snoc (A:=Av base w33 _ _) (A':=Av base w34 (.slice aN (tN s i).length cN) (.slice (some ⟨g34,0,none⟩) ((tP s i).length+1) c34)) r1 r3 (fun i hi=>(r4 i hi).mono (fun j _ h=>av_mono (by have:q≤w33.heap.size:=hGq;omega) h)) (ht.mono (fun j _ h=>av_mono hGt h)) hO34 hg (fun j e=>.inr (.inr (.inl e))) (fun j h=>av_step hg.size (.inl rfl) hob34 h);have hN:=Own.carryR hN hg (fun j hj hj'=>own_ne hN r2 rfl hj hj');have hB:=hB.step hg (fun i hi e=>by have:=hlo i e;omega);have hr:=hr.carryR hg (fun j e=>hU j (by have:=hlo j e;omega));have hn:=hn.carryR hg (fun j e=>hU j (by have:=hlo j e;omega));have bx1:=bx1.carryR hg (fun e=>by have:=hlo _ e;omega);have bx2:=bx2.carryR hg (fun e=>by have:=hlo _ e;omega);have bx3:=bx3.carryR hg (fun e=>by have:=hlo _ e;omega);have hG:=hG.carryR hg;refine L.val (x_fa kturned11_fo25_4 rfl) rfl ?_;refine L.set (v:=.slice _ _ _) kturned11_sz23 rfl rfl rfl bx3 rfl (fun wl36 bx3 hw hzl36=>?_);have hsz:=hB.size;have hB:=hB.set hw om_;have hr:=hr.carryR hw (fun k e=>hU k (by have:k=_:=e;omega));have hn:=hn.carryR hw (fun k e=>hU k (by have:k=_:=e;omega));have bx1:=bx1.carryR hw om_;have bx2:=bx2.carryR hw om_;have hG:=hG.carryR hw;have hN:=Own.carryR hN hw (fun j hj e=>by have e:j=_:=e;have h1:=(Own.lt hN hj).1;first | omega | (have h2:=hqN j hj;omega));have hP:=hP.carryA (A':=_) hw (fun j hj e=>by have e:j=_:=e;have h1:=(hP.lt hj).1;first | omega | (have h2:=hqP j hj;omega)) (fun j e=>by have e:j=_:=e;first | exact .inl om_ | exact .inr (.inr (.inr om_))) (fun _ h=>h);have hi':i+1≤s.parts.length:=hip;have hP:ShsOwn (Av base wl36 (.slice aN (tN s i).length cN) (.slice (some ⟨g34,0,none⟩) ((tP s i).length+1) c34)) wl36 base 25 (.slice (some ⟨g34,0,none⟩) ((tP s i).length+1) c34) (tP s (i+1)):=by
         rw [tP_nil hne hip];exact ShsOwn.carryA hP (Gr.refl (fun _=>False) _) (fun _ _ f=>f) (fun _ f=>f.elim) (fun j h=>av_mono (Nat.le_of_eq hzl36.symm) h)
       have hN:Own wl36 base 9 1 (.slice aN (tN s i).length cN) (tN s (i+1)).length ((tN s (i+1)).map S):=by
         have e1:tN s (i+1)=tN s i:=by rw [tN_nil hne,tN_nil hne]
         rw [e1];exact hN
       refine L.nil (thn_n (W.exit (thn_x (blk_hit ?_))));refine thn_n (W.region (L.val (x_mv (v:=.int _ _) rfl) rfl ?_));refine L.val (x_add rfl rfl (wr64 om_)) rfl ?_;refine L.val (x_as (v:=.int _ _) rfl) rfl ?_;refine L.nil (thn_n ⟨rfl,?_⟩);refine ⟨_,?_,i+1,_,_,rfl,vi_,vi_,vi_,vi_,ao_,ao_,ao_,ao_,ao_,ao_,ao_,ao_,ao_,ao_⟩;omega
      ·have h29:=of_decide_eq_false g29;have hne:s.names≠[]:=fun e=>by rw [e] at h29;simp at h29
       have hln:s.names.length=s.parts.length:=hfs.resolve_left hne;have hin:i<s.names.length:=by omega
       obtain ⟨bn,on,rfl,-⟩:=hn.elem (i:=i) hin;have hB0:=Gr.refl (fun _=>False) wl25;obtain ⟨n0,hn0⟩:∃ n,n=wl25.heap.size:=⟨_,rfl⟩;have hGn:n0≤wl25.heap.size:=by omega
       have hqn:q≤n0:=by rw [hn0];exact hGq
       have htn:w25.heap.size≤n0:=by rw [hn0];exact hGt
       refine W.skip (thn_n (W.seq (W.drawT (fun w'=>Box w' w.heap.size 25 [.int .i64 s.kind,S s.of,S s.name,.slice (some ⟨bn,on,none⟩) s.names.length capn,.slice (some ⟨bp,op,none⟩) s.parts.length cap]∧Box w' b3 25 [.int .i64 s.kind,S s.of,S s.name,.slice aN (tN s i).length cN,.slice aP (tP s i).length cP]∧StrsAt A w' (.slice (some ⟨bn,on,none⟩) s.names.length capn) s.names) 10 kturned11_mixed ?_)));have hB0:=hB0.carry (bel_drew _);refine LAC.take (i:=0) rfl kr_ kr_ kr_ kr_ rfl kr_ (fun w hw=>x_fa kturned11_fo25_3 rfl) rfl ?_;refine LAC.take (i:=1) rfl kr_ kr_ kr_ kr_ rfl kr_ (fun w hw=>by obtain ⟨bx1,bx3,hn⟩:=hw;exact x_ld (v:=.slice _ _ _) kturned11_oc22 rfl (bx1.cell0 rfl)) rfl ?_;refine LAC.take (i:=2) rfl kr_ kr_ kr_ kr_ rfl kr_ (fun w hw=>x_mv (v:=.int _ _) rfl) rfl ?_;refine LAC.take (i:=3) rfl kr_ kr_ kr_ kr_ rfl kr_ (fun w hw=>x_ia1 (j:=i) Try.underlying22 kturned11_sz9 rfl rfl om_ om_) rfl ?_;refine LAC.take (i:=4) rfl kr_ kr_ kr_ kr_ rfl kr_ (fun w hw=>by obtain ⟨bx1,bx3,hn⟩:=hw;exact x_ld (v:=S _) kturned11_oc9 rfl (hn.elemAt hin)) rfl ?_;refine LAC.take (i:=6) rfl kr_ kr_ kr_ kr_ rfl kr_ (fun w hw=>x_fa kturned11_fo25_3 rfl) rfl ?_;refine LAC.take (i:=7) rfl kr_ kr_ kr_ kr_ rfl kr_ (fun w hw=>by obtain ⟨bx1,bx3,hn⟩:=hw;exact x_ld (v:=.slice _ _ _) kturned11_oc22 rfl (bx3.cell0 rfl)) rfl ?_;refine LAC.step (rs:=[5]) (fun _=>⟨bx1.carry hB0,bx3.carry hB0,hn.carry hB0⟩) kr_ (by simp) ⟨⟨_,rfl,?_⟩,trivial⟩;refine L.bs (sz:=1) (cells:=[S (s.names.getD i [])]) Try.underlying22 kturned11_el9 rfl rfl rfl rfl (fun w41 bx41 hw hz41=>?_);have hB0:=hB0.carry hw;refine L.nil (thn_n (LAC.step (rs:=[8]) (fun _=>⟨bx1.carry hB0,bx3.carry hB0,hn.carry hB0⟩) kr_ (by simp) ⟨⟨_,rfl,?_⟩,trivial⟩));have hO41:=own_box (base:=n0) bx41 (k:=1) (sz:=1) rfl (by have:=hB0.size;first | omega | (have h9:wl25.drew.heap.size=wl25.heap.size:=rfl;omega)) (by decide);refine L.appendG (m:=((tN s i).length)) Try.underlying22 kturned11_el9 rfl rfl rfl hO41 (by simp) (own_holds (hN.carry hB0)) (by intro u hu;obtain ⟨x,-,rfl⟩:=List.mem_map.1 hu;rfl) om_ (Nat.le_trans hGn hB0.size) (fun v44 w44 hO44 hg hob44=>?_);have hlo:∀ j,some j=_→n0≤j:=fun j hj=>(Own.lt hO41 (j:=j) hj).1
       have hB0:=hB0.step hg (fun j hj e=>by have:=hlo j e;omega);obtain ⟨a44,c44,rfl,-⟩:=own_shape hO44;have hB:=hB.carry hB0;have hr:=hr.carry hB0;have hn:=hn.carry hB0;have bx1:=bx1.carry hB0;have bx2:=bx2.carry hB0;have bx3:=bx3.carry hB0;have bx5:=bx5.carry hB0;have hG:=hG.carry hB0;have hP:=hP.carry hB0;have hGq:=hGq.carry hB0;have hGt:=hGt.carry hB0;have ht:=ht.carry hB0;have hB0:=Gr.refl (fun _=>False) w44;refine L.nil (thn_n (LAC.take (i:=9) rfl kr_ kr_ kr_ kr_ rfl kr_ (fun w hw=>x_fa kturned11_fo25_3 rfl) rfl ?_));refine LAC.step (rs:=[10]) (fun _=>⟨bx1.carry hB0,bx3.carry hB0,hn.carry hB0⟩) kr_ (by simp) ⟨⟨_,rfl,?_⟩,trivial⟩;refine L.set (v:=.slice _ _ _) kturned11_sz22 rfl rfl rfl bx3 rfl (fun wl47 bx3 hw hzl47=>?_);have hsz:=hB.size;have hB:=hB.set hw om_;have hr:=hr.carryR hw (fun k e=>hU k (by have:k=_:=e;omega));have hn:=hn.carryR hw (fun k e=>hU k (by have:k=_:=e;omega));have bx1:=bx1.carryR hw om_;have bx2:=bx2.carryR hw om_;have bx5:=bx5.carryR hw om_;have hG:=hG.carryR hw;have hP:=hP.carryA (A':=_) hw (fun j hj e=>by have e:j=_:=e;have h1:=(hP.lt hj).1;first | omega | (have h2:=hqP j hj;omega)) (fun j e=>by have e:j=_:=e;first | exact .inl om_ | exact .inr (.inr (.inr om_))) (fun _ h=>h);have hGq:=hGq.carryR hw;have hGt:=hGt.carryR hw;have ht:=ht.carryR hw (fun j e=>by have e:j=_:=e;first | exact .inl om_ | exact .inr (.inr (.inr om_)));have hO44:=Own.carryR hO44 hw (fun j hj e=>by have e:j=_:=e;have h1:=(Own.lt hO44 hj).1;omega);have f1:=tN_succ hne hin;have f3:1+(tN s i).length=(tN s (i+1)).length:=by rw [f1];simp;omega
       rw [f3] at hO44 bx3;have f4:[S (s.names.getD i [])]++(tN s i).map S=(tN s (i+1)).map S:=by rw [f1];simp
       rw [f4] at hO44;have hN:=hO44;obtain ⟨rows,r1,r2,r3,r4⟩:=hP;have hr1:=rows_one r1 r4;have hB0:=Gr.refl (fun _=>False) wl47;obtain ⟨n1,hn1⟩:∃ n,n=wl47.heap.size:=⟨_,rfl⟩;have hGn1:n1≤wl47.heap.size:=by omega
       have hbn1:base≤n1:=by rw [hn1];exact hG
       have htn1:w25.heap.size≤n1:=by rw [hn1];exact hGt
       refine L.nil (thn_n (LAC.done kr_ kr_ ?_));refine thn_n (W.region (L.val (x_ldn (vs:=cs25) kturned11_ag25 rfl ht.len (bx5.row ht.len)) rfl ?_));refine L.bs (sz:=5) (cells:=cs25) Try.underlying23 kturned11_el25 rfl (by show (partsOk 5 0 [(0,Value.agg cs25.toArray)] && decide ([((0:Nat),Value.agg cs25.toArray)].length=1) && decide (0<1) && decide (1 * 5≤16777216))=true;simp [partsOk,ht.len,Value.cells]) (by show ([((0:Nat),Value.agg cs25.toArray)].map fun x=>x.2.cells.toList).flatten=cs25;simp [Value.cells]) rfl (fun w47 bx47 hw hz47=>?_);have hB0:=hB0.carry hw;have bx3:=bx3.carry hw;refine L.val (x_fa kturned11_fo25_4 rfl) rfl ?_;refine L.val (x_ld (v:=.slice _ _ _) kturned11_oc23 rfl (bx3.cell0 rfl)) rfl ?_;have hO47:=own_box (base:=n1) bx47 (k:=1) (sz:=5) ht.len om_ (by decide);refine L.appendG (m:=((tP s i).length)) Try.underlying23 kturned11_el25 rfl rfl rfl hO47 (r2.1) (own_holds (r2.carry hB0)) hr1 om_ (Nat.le_trans hGn1 hB0.size) (fun v50 w50 hO50 hg hob50=>?_);have hlo:∀ j,some j=_→n1≤j:=fun j hj=>(Own.lt hO47 (j:=j) hj).1
       have hlo3:n1≤w50.heap.size:=Nat.le_trans hGn1 (hB0.step hg (fun j hj e=>by have:=hlo j e;omega)).size;have bx3:=bx3.carryR hg (fun e=>by have:=hlo _ e;omega);have hB0:=hB0.step hg (fun j hj e=>by have:=hlo j e;omega);have hlo9:∀ j,some j=v50.ownBlock→n1≤j:=fun j hj=>(Own.lt hO50 (j:=j) hj).1
       have hloN:∀ j,some j=(Value.slice a44 (tN s (i+1)).length c44).ownBlock→n0≤j:=fun j hj=>(Own.lt hN (j:=j) hj).1
       have f5:1+(tP s i).length=(tP s i).length+1:=by omega
       have f6:cs25++rows.flatten=rows.flatten.take (0 * 5)++cs25++rows.flatten.drop (0 * 5):=by simp
       rw [f5,f6] at hO50;have hP:=ShsOwn.ins (A:=Av base w25 _ _) (A':=Av base w50 (.slice a44 (tN s (i+1)).length c44) v50) r1 r3 (fun i hi=>(r4 i hi).mono (fun j _ h=>av_mono hs25 h)) (Nat.zero_le _) ht (hO50.weak (show base≤n1 by omega)) hB0 (fun j h=>by
         rcases h with h | h | h | h
         · exact .inl h
         · exact .inr (.inr (.inr (by have:=hloN j h;omega)))
         · exact .inr (.inr (.inr (by have:=hlo9 j h;omega)))
         · exact .inr (.inr (.inr om_)))
       rw [List.take_zero,List.drop_zero,List.nil_append,← tP_succ hne hip] at hP;have hN:Own wl47 base _ _ _ _ _:=hN.weak om_;obtain ⟨a50,c50,rfl,-⟩:=own_shape hO50;clear r2 r4 ht;have hB:=hB.carry hB0;have hr:=hr.carry hB0;have hn:=hn.carry hB0;have bx1:=bx1.carry hB0;have bx2:=bx2.carry hB0;have hG:=hG.carry hB0;have hN:=hN.carry hB0;refine L.val (x_fa kturned11_fo25_4 rfl) rfl ?_;refine L.set (v:=.slice _ _ _) kturned11_sz23 rfl rfl rfl bx3 rfl (fun wl54 bx3 hw hzl54=>?_);have hsz:=hB.size;have hB:=hB.set hw om_;have hr:=hr.carryR hw (fun k e=>hU k (by have:k=_:=e;omega));have hn:=hn.carryR hw (fun k e=>hU k (by have:k=_:=e;omega));have bx1:=bx1.carryR hw om_;have bx2:=bx2.carryR hw om_;have hG:=hG.carryR hw;have hN:=Own.carryR hN hw (fun j hj e=>by have e:j=_:=e;have h1:=(Own.lt hN hj).1;first | omega | (have h2:=hqN j hj;omega));have hP:=hP.carryA (A':=_) hw (fun j hj e=>by have e:j=_:=e;have h1:=(hP.lt hj).1;first | omega | (have h2:=hqP j hj;omega)) (fun j e=>by have e:j=_:=e;first | exact .inl om_ | exact .inr (.inr (.inr om_))) (fun _ h=>h);have hi':i+1≤s.parts.length:=hip;have hP:=ShsOwn.carryA (A':=Av base wl54 _ _) hP (Gr.refl (fun _=>False) _) (fun _ _ f=>f) (fun _ f=>f.elim) (fun j h=>av_mono (Nat.le_of_eq hzl54.symm) h);refine L.nil (blk_n (thn_n (W.region (L.val (x_mv (v:=.int _ _) rfl) rfl ?_))));refine L.val (x_add rfl rfl (wr64 om_)) rfl ?_;refine L.val (x_as (v:=.int _ _) rfl) rfl ?_;refine L.nil (thn_n ⟨rfl,?_⟩);refine ⟨_,?_,i+1,_,_,rfl,vi_,vi_,vi_,vi_,ao_,ao_,ao_,ao_,ao_,ao_,ao_,ao_,ao_,ao_⟩;omega
     ·have h17:=dlt_f g17;refine W.exit (thn_x (thn_x (blk_hit ?_)));refine thn_n (W.seq (W.region ?_));obtain ⟨xsP,hPo⟩:=hP.own;refine L.val (x_ldn (vs:=_) kturned11_ag25 rfl rfl (bx3.row rfl)) rfl ?_;refine L.setRow kturned11_ag25 rfl rfl bx2 rfl rfl (by intro v hv;simp only [List.mem_cons,List.not_mem_nil,or_false] at hv;rcases hv with rfl | rfl | rfl | rfl | rfl <;> first | rfl | exact own_one hN | exact own_one hPo) (fun wl59 bx2 hw hzl59=>?_);have hsz:=hB.size;have hB:=hB.set hw om_;have bx3:=bx3.carryR hw om_;have hN:=Own.carryR hN hw (fun j hj e=>by have e:j=_:=e;have h1:=(Own.lt hN hj).1;first | omega | (have h2:=hqN j hj;omega));have hP:=hP.carryA (A':=_) hw (fun j hj e=>by have e:j=_:=e;have h1:=(hP.lt hj).1;first | omega | (have h2:=hqP j hj;omega)) (fun j e=>by have e:j=_:=e;first | exact .inl om_ | exact .inr (.inr (.inr om_))) (fun _ h=>h);have hG:=hG.carryR hw;refine L.nil (thn_n (W.ret (finR_mk (.inr rfl) ?_)));have hii:i=s.parts.length:=by omega
      subst hii;have hNl:=@tN_len s s.parts.length;have hPl:=tP_len (Nat.le_refl s.parts.length);refine ⟨_,resS rfl kturned11_ag25 rfl bx2 rfl,_,rfl,?_,hB⟩;rw [← turn_of_t hfs];exact ShC.intro (strs_done hN om_ (tN_short hL) (fun j h=>by omega)) (hP.done om_ (fun j h=>.inl om_) (fun j h=>by omega)) hof hnm
end Go.Gx
namespace Go.Gx
open Go.Proofs
theorem kmeets11_ag25:aggT Try.prog 25 5=true:=by kernel_rfl
theorem kmeets11_ag37:aggT Try.prog 37 7=true:=by kernel_rfl
theorem kmeets11_en17:Go.Proofs.Enters Try.prog 17:=Go.Proofs.enters_of Try.func17 kr_ rfl
theorem kmeets11_fo25_0:fieldOff Try.prog 25 0=some 0:=by kernel_rfl
theorem kmeets11_fo25_1:fieldOff Try.prog 25 1=some 1:=by kernel_rfl
theorem kmeets11_fo25_2:fieldOff Try.prog 25 2=some 2:=by kernel_rfl
theorem kmeets11_fo25_4:fieldOff Try.prog 25 4=some 4:=by kernel_rfl
theorem kmeets11_fo37_0:fieldOff Try.prog 37 0=some 0:=by kernel_rfl
theorem kmeets11_fo37_1:fieldOff Try.prog 37 1=some 1:=by kernel_rfl
theorem kmeets11_mixed:Try.prog.follows .mixedOrders=true:=by kernel_rfl
theorem kmeets11_oc23:oneCellT Try.prog 23=true:=by kernel_rfl
theorem kmeets11_oc3:oneCellT Try.prog 3=true:=by kernel_rfl
theorem kmeets11_oc9:oneCellT Try.prog 9=true:=by kernel_rfl
theorem kmeets11_sz25:(Try.prog.info? 25).map (·.size)=some 5:=by kernel_rfl
theorem any_take_succ {q:Sh→Bool} {l:List Sh} {i:Nat} (hi:i<l.length):(l.take (i+1)).any q=((l.take i).any q || q (l.getD i default)):=by
  rw [List.take_succ_eq_append_getElem hi,List.any_append,List.getD_eq_getElem?_getD,List.getElem?_eq_getElem hi];simp
theorem meets11 (b:Bd):∀ (N:Nat) (s:Sh),SizeOf.sizeOf s<N→∀ (A B:Nat→Prop) (cs ds:List Value) (w:World),ShC A w cs s→BdC B w ds b→
    Ret Try.prog 17 #[.agg cs.toArray,.agg ds.toArray] w fun v w'=>v=.bool (s.meets b.of b.name)∧Bel w w':=by
  intro N;induction N with
  | zero=>intro s h;omega
  | succ N ih=>
  intro s hN A B cs ds w hs hb;have hlb:=hb.len;obtain ⟨vna,vpa,rfl,hna,hpa,-⟩:=id hs.inv;obtain ⟨p,cap,rowa,rfl,p1,p2,p3,hra⟩:=hpa;obtain ⟨rs,e,hr,ho,hn⟩:=id hb;subst e;refine ret_of_W Try.func17 rfl (Nat.le_of_ble_eq_true rfl) (res1 rfl) ?_;have hB:=Gr.refl (fun _=>False) w;refine W.seq (W.region (L.box (cs:=[.int .i64 s.kind,S s.of,S s.name,vna,.slice p s.parts.length cap]) rfl rfl (fun w2 bx2 hw hz2=>?_)));have hB:=hB.carry hw;have hra:=hra.carry hw;have hb:=hb.carry hw;refine L.box (cs:=S b.of :: S b.name :: rs) rfl rfl (fun w3 bx3 hw hz3=>?_);have hB:=hB.carry hw;have hra:=hra.carry hw;have hb:=hb.carry hw;have bx2:=bx2.carry hw;refine L.val (x_as (v:=.bool _) rfl) rfl ?_;refine L.nil (thn_n (W.seq (W.seq (W.region (L.val (x_as (v:=.int _ _) rfl) rfl ?_)))));refine L.nil (thn_n (W.block (W.loop (fun m' E w'=>∃ (i:Nat),m'=s.parts.length - i∧E 2=.pointer (some ⟨w.heap.size,0,none⟩)∧E 3=.pointer (some ⟨w2.heap.size,0,none⟩)∧E 5=.int .i64 (i:Nat)∧(Bel w w')∧(ShRow A w' p rowa s.parts)∧(BdC B w' (S b.of :: S b.name :: rs) b)∧(Box w' w.heap.size 25 [.int .i64 s.kind,S s.of,S s.name,vna,.slice p s.parts.length cap])∧(Box w' w2.heap.size 37 (S b.of :: S b.name :: rs))∧(i≤s.parts.length)∧((s.parts.take i).any (Sh.meets b.of b.name)=false)) (s.parts.length) ?_ ?_)))
  ·exact ⟨0,by omega,vi_,vi_,vi_,ao_,ao_,ao_,ao_,ao_,ao_,(by rfl)⟩
  ·rintro _ E wL6 ⟨i,em,e2,e3,e5,hB,hra,hb,bx2,bx3,hi,hany⟩;rw [upd_self e2,upd_self e3,upd_self e5];refine W.seq (W.seq (W.region (L.val (x_mv (v:=.int _ _) rfl) rfl ?_)));refine L.val (x_fa kmeets11_fo25_4 rfl) rfl ?_;refine L.val (x_ld (v:=.slice _ _ _) kmeets11_oc23 rfl (bx2.cell0 rfl)) rfl ?_;refine L.val (x_len_slice Try.underlying23 rfl) rfl ?_;refine L.val (x_lss rfl rfl) rfl ?_;refine L.nil (thn_n (W.cond (b:=_) rfl (fun g10=>?_) (fun g10=>?_)))
   ·have h10:=of_decide_eq_true g10;have hip:i<s.parts.length:=by omega
    obtain ⟨pb,po,rfl,-⟩:=hra.elem hip;refine W.skip (thn_n (W.seq (W.block (W.seq (W.drawB kmeets11_mixed kr_ ?_)))));refine LQ.val (fun w hw=>x_fa kmeets11_fo25_4 rfl) rfl ?_;refine LQ.val (fun w hw=>x_ld (v:=.slice _ _ _) kmeets11_oc23 rfl (hw.keep (bx2.cell0 rfl))) rfl ?_;refine LQ.val (fun w hw=>x_mv (v:=.int _ _) rfl) rfl ?_;refine LQ.val (fun w hw=>x_ia (j:=i) Try.underlying23 kmeets11_sz25 rfl rfl om_ om_) rfl ?_;refine LQ.val (fun w hw=>x_ldn (vs:=rowa i) kmeets11_ag25 rfl (hra.five i hip) (hw.keepRow (hra.five i hip) (hra.elemAt hip))) rfl ?_;refine LQ.val (fun w hw=>x_ldn (vs:=S b.of :: S b.name :: rs) kmeets11_ag37 rfl hlb (hw.keepRow hlb (bx3.row hlb))) rfl ?_;refine LQ.ret (fun w=>x_call kmeets11_en17 rfl) (fun w hw=>Ret.mono (ih _ (by have:=Sh.part_lt (s:=s) hip;omega) A B _ _ _ ((hra.each i hip).carry hw) (hb.carry hw)) (fun _ _ h=>⟨h.1,Gr.trans hw h.2⟩)) rfl ?_;refine LQ.nil ?_;intro w13 hw;have hB:=hB.carry hw;have hra:=hra.carry hw;have hb:=hb.carry hw;have bx2:=bx2.carry hw;have bx3:=bx3.carry hw;refine thn_n (W.cond (b:=_) rfl (fun g19=>?_) (fun g19=>?_))
    ·have h19:=g19;have hm:s.meets b.of b.name=true:=by
       rw [Sh.meets_eq,Bool.or_eq_true];refine .inl (List.any_eq_true.2 ⟨s.parts.getD i default,?_,h19⟩);rw [List.getD_eq_getElem?_getD,List.getElem?_eq_getElem hip];exact List.getElem_mem _
     refine W.seq (W.region (L.val (x_as (v:=.bool _) rfl) rfl ?_));refine L.nil (thn_n (W.ret (blk_r (thn_r (thn_r (blk_r (thn_r (fin_mk (.inr rfl) ?_))))))));exact ⟨vb hm.symm,hB⟩
    ·have h19:=g19;have hno:(s.parts.getD i default).meets b.of b.name=false:=h19;refine W.skip (blk_n (thn_n (W.region (L.val (x_mv (v:=.int _ _) rfl) rfl ?_))));refine L.val (x_add rfl rfl (wr64 om_)) rfl ?_;refine L.val (x_as (v:=.int _ _) rfl) rfl ?_;refine L.nil (thn_n ⟨rfl,?_⟩);refine ⟨_,?_,i+1,rfl,vi_,vi_,vi_,ao_,ao_,ao_,ao_,ao_,ao_,(by rw [any_take_succ hip,hany,hno];rfl)⟩;omega
   ·have h10:=dlt_f g10;refine W.exit (thn_x (thn_x (blk_hit ?_)));refine thn_n (W.seq (W.region (L.val (x_fa kmeets11_fo25_0 rfl) rfl ?_)));refine L.val (x_ld (v:=.int _ _) kmeets11_oc3 rfl (bx2.cell0 rfl)) rfl ?_;refine L.val (x_eql rfl rfl) rfl ?_;refine L.val (x_mv (v:=.bool _) rfl) rfl ?_;refine' L.group0 5 24 28 28 23 true rfl ?_ ?_ ?_;rotate_left 1
    ·intro g23;have h23:=of_decide_eq_true g23;refine L.gyes' (dj:=23) (b:=_) rfl rfl g23 ?_;refine L.val (x_fa kmeets11_fo25_1 rfl) rfl ?_;refine L.gyes' (dj:=23) (b:=_) rfl rfl g23 ?_;refine L.val (x_ld (v:=S _) kmeets11_oc9 rfl (bx2.cell0 rfl)) rfl ?_;refine L.gyes' (dj:=23) (b:=_) rfl rfl g23 ?_;refine L.val (x_fa kmeets11_fo37_0 rfl) rfl ?_;refine L.gyes' (dj:=23) (b:=_) rfl rfl g23 ?_;refine L.val (x_ld (v:=S _) kmeets11_oc9 rfl (bx3.cell0 rfl)) rfl ?_;refine L.gyes' (dj:=23) (b:=_) rfl rfl g23 ?_;refine L.val (x_eqs rfl rfl) rfl ?_;refine L.nil (thn_n ⟨rfl,rfl,?_,rfl⟩);repeat (first | exact jeq.refl _ _ _ | refine jeq.upd rfl ?_ | refine jeq.jk rfl rfl ?_)
    ·intro g23;(iterate 5 refine L.gno (dj:=23) (b:=_) rfl rfl g23 rfl ?_);refine L.nil (thn_n ⟨rfl,rfl,?_⟩);repeat (first | exact jeq.refl _ _ _ | refine jeq.upd rfl ?_ | refine jeq.jk rfl rfl ?_)
    intro J23 j23;refine L.val (x_and rfl j23) rfl ?_;refine L.val (x_mv (v:=.bool _) rfl) rfl ?_;refine' L.group0 5 31 35 35 30 true rfl ?_ ?_ ?_;rotate_left 1
    ·intro g30;have h30:=g30;refine L.gyes' (dj:=30) (b:=_) rfl rfl g30 ?_;refine L.val (x_fa kmeets11_fo25_2 rfl) rfl ?_;refine L.gyes' (dj:=30) (b:=_) rfl rfl g30 ?_;refine L.val (x_ld (v:=S _) kmeets11_oc9 rfl (bx2.cell0 rfl)) rfl ?_;refine L.gyes' (dj:=30) (b:=_) rfl rfl g30 ?_;refine L.val (x_fa kmeets11_fo37_1 rfl) rfl ?_;refine L.gyes' (dj:=30) (b:=_) rfl rfl g30 ?_;refine L.val (x_ld (v:=S _) kmeets11_oc9 rfl (bx3.cell0 rfl)) rfl ?_;refine L.gyes' (dj:=30) (b:=_) rfl rfl g30 ?_;refine L.val (x_eqs rfl rfl) rfl ?_;refine L.nil (thn_n ⟨rfl,rfl,?_,rfl⟩);repeat (first | exact jeq.refl _ _ _ | refine jeq.upd rfl ?_ | refine jeq.jk rfl rfl ?_)
    ·intro g30;(iterate 5 refine L.gno (dj:=30) (b:=_) rfl rfl g30 rfl ?_);refine L.nil (thn_n ⟨rfl,rfl,?_⟩);repeat (first | exact jeq.refl _ _ _ | refine jeq.upd rfl ?_ | refine jeq.jk rfl rfl ?_)
    intro J30 j30;refine L.val (x_and rfl j30) rfl ?_;refine L.val (x_as (v:=.bool _) rfl) rfl ?_;refine L.nil (thn_n (W.ret (fin_mk (.inr rfl) ?_)));have hii:i=s.parts.length:=by omega
    rw [hii,List.take_length] at hany;exact ⟨vb (by rw [Sh.meets_eq,hany,Bool.false_or]),hB⟩
end Go.Gx
namespace Go.Gx
open Go.Proofs
theorem flatk_take {k:Nat} {rows:List (List Value)} (h:∀ r∈rows,r.length=k) (i:Nat):(rows.take i).flatten=rows.flatten.take (i * k)∧(rows.drop i).flatten=rows.flatten.drop (i * k):=by
  induction rows generalizing i with
  | nil=>simp
  | cons r rows ih=>
    have hr:=h r (by simp);cases i with
    | zero=>simp
    | succ i=>
      obtain ⟨h1,h2⟩:=ih (fun q hq=>h q (by simp [hq])) i;have e:(i+1) * k=k+i * k:=by rw [Nat.add_mul,Nat.one_mul,Nat.add_comm]
      constructor
      · rw [List.take_succ_cons,List.flatten_cons,List.flatten_cons,h1,e,List.take_append,hr,Nat.add_sub_cancel_left,List.take_of_length_le (l:=r) om_]
      · rw [List.drop_succ_cons,List.flatten_cons,h2,e,List.drop_append,hr,Nat.add_sub_cancel_left,List.drop_of_length_le (l:=r) om_,List.nil_append]
section
variable {w:World}
theorem HoldsN.take {p:Option Addr} {n cap sz:Nat} {xs:List Value} (h:HoldsN w (.slice p n cap) n xs) {k:Nat} (hk:k≤n):HoldsN w (.slice p k cap) k (xs.take (k * sz)):=by
  rcases h with ⟨a,c,e,hc⟩ | ⟨c,e,h0,hx⟩
  · cases e;exact .inl ⟨a,cap,rfl,fun j x hj=>hc j x (by rw [List.getElem?_take] at hj;split at hj;exact hj;cases hj)⟩
  · cases e;have:k=0:=by omega
    subst this;exact .inr ⟨cap,rfl,rfl,by simp⟩
theorem HoldsN.drop {p:Option Addr} {n cap sz:Nat} {xs:List Value} (h:HoldsN w (.slice p n cap) n xs) (hl:xs.length=n * sz) (hn:n≤cap) {k:Nat} (hk:k≤n):HoldsN w (.slice (if cap=k then p else p.map (·.add (k * sz))) (n - k) (cap - k)) (n - k) (xs.drop (k * sz)):=by
  rcases h with ⟨a,c,e,hc⟩ | ⟨c,e,h0,hx⟩
  · cases e;by_cases hck:cap=k
    · have hkn:k=n:=by omega
      rw [if_pos hck];refine .inl ⟨a,_,rfl,fun j x hj=>?_⟩;rw [List.drop_of_length_le (by rw [hl,hkn];exact Nat.le_refl _)] at hj;simp at hj
    · rw [if_neg hck];refine .inl ⟨_,_,rfl,fun j x hj=>?_⟩;rw [List.getElem?_drop] at hj;have h1:=hc _ x hj;obtain ⟨b,o,spot⟩:=a;have hlt:=(List.getElem?_eq_some_iff.1 hj).1;have hsp:spot=none:=by simpa [Addr.add] using World.cell?_spot (hc 0 _ (List.getElem?_eq_getElem (by omega:0<xs.length)))
      subst hsp;show w.cell? (((⟨b,o,none⟩:Addr).add (k * sz)).add j)=some x;rw [addp,addp];rw [addp] at h1;rw [← h1];congr 2;omega
  · cases e;have:k=0:=by omega
    subst this;refine .inr ⟨cap - 0,?_,rfl,by rw [hx];simp⟩;split <;> rfl
def RowsC {α : Type} [Inhabited α] (C:Thing α) (A:Nat→Prop) (w:World) (rows:List (List Value)) (l:List α):Prop:=rows.length=l.length∧∀ i,i<l.length→C A w (rows.getD i []) (l.getD i default)
theorem RecRow.rowsC {α : Type} [Inhabited α] {C:Thing α} {k:Nat} {A:Nat→Prop} {p:Option Addr} {row:Nat→List Value} {l:List α} (h:RecRow C k A w p row l):RowsC C A w ((List.range l.length).map row) l:=
  ⟨by simp,fun i hi=>by have:=h.each i hi;simpa [hi] using this⟩
theorem RowsC.append {α : Type} [Inhabited α] {C:Thing α} {A:Nat→Prop} {r r':List (List Value)} {l l':List α} (h:RowsC C A w r l) (h':RowsC C A w r' l'):RowsC C A w (r++r') (l++l'):=by
  refine ⟨by simp [h.1,h'.1],fun i hi=>?_⟩;simp only [List.getD_eq_getElem?_getD];by_cases hlt:i<l.length
  · rw [List.getElem?_append_left (by rw [h.1];exact hlt),List.getElem?_append_left hlt];have:=h.2 i hlt;simpa only [List.getD_eq_getElem?_getD] using this
  · rw [List.getElem?_append_right (by rw [h.1];omega),List.getElem?_append_right om_,h.1];have:=h'.2 (i - l.length) (by simp at hi;omega);simpa only [List.getD_eq_getElem?_getD] using this
theorem RowsC.one {α : Type} [Inhabited α] {C:Thing α} {A:Nat→Prop} {r:List Value} {x:α} (h:C A w r x):RowsC C A w [r] [x]:=⟨rfl,fun i hi=>by match i,hi with | 0,_=>exact h⟩
theorem RowsC.nil {α : Type} [Inhabited α] {C:Thing α} {A:Nat→Prop}:RowsC C A w [] ([]:List α):=⟨rfl,fun i hi=>absurd hi (by simp)⟩
theorem RowsC.take {α : Type} [Inhabited α] {C:Thing α} {A:Nat→Prop} {r:List (List Value)} {l:List α} (h:RowsC C A w r l) (k:Nat):RowsC C A w (r.take k) (l.take k):=by
  refine ⟨by simp [h.1],fun i hi=>?_⟩;have hi2:i<l.length∧i<k:=by rw [List.length_take] at hi;omega
  have:=h.2 i hi2.1;simp only [List.getD_eq_getElem?_getD] at this ⊢
  rwa [List.getElem?_take_of_lt hi2.2,List.getElem?_take_of_lt hi2.2]
theorem RowsC.drop {α : Type} [Inhabited α] {C:Thing α} {A:Nat→Prop} {r:List (List Value)} {l:List α} (h:RowsC C A w r l) (k:Nat):RowsC C A w (r.drop k) (l.drop k):=by
  refine ⟨by simp [h.1],fun i hi=>?_⟩;have hi2:k+i<l.length:=by rw [List.length_drop] at hi;omega
  have:=h.2 (k+i) hi2;simp only [List.getD_eq_getElem?_getD] at this ⊢
  rwa [List.getElem?_drop,List.getElem?_drop]
section
variable {α : Type} [Inhabited α] {C:Thing α} {k:Nat} [Car C k] {A A' R:Nat→Prop} {r:List (List Value)} {l:List α}
theorem RowsC.lens (h:RowsC C A w r l):∀ q∈r,q.length=k:=fun q hq=>by
  obtain ⟨i,hi,rfl⟩:=List.getElem_of_mem hq;have:=Car.len (h.2 i (by rw [← h.1];exact hi))
  rwa [List.getD_eq_getElem?_getD,List.getElem?_eq_getElem hi] at this
omit [Car C k] in
theorem RowsC.ones {k:Nat} [Car C k] (h:RowsC C A w r l):∀ u∈r.flatten,u.oneCell'=true:=fun u hu=>by
  obtain ⟨q,hq,hu⟩:=List.mem_flatten.1 hu;obtain ⟨i,hi,rfl⟩:=List.getElem_of_mem hq;refine Car.one (h.2 i (by rw [← h.1];exact hi)) u ?_
  rwa [List.getD_eq_getElem?_getD,List.getElem?_eq_getElem hi]
omit [Car C k] in
theorem RowsC.carryR {k:Nat} [Car C k] {w':World} (h:RowsC C A w r l) (g:Gr R w w') (hR:∀ j,R j→A j):RowsC C A w' r l:=⟨h.1,fun i hi=>Car.carryR (h.2 i hi) g hR⟩
omit [Car C k] in
theorem RowsC.carry {k:Nat} [Car C k] {w':World} (h:RowsC C A w r l) (g:Bel w w'):RowsC C A w' r l:=⟨h.1,fun i hi=>Car.carry (h.2 i hi) g⟩
omit [Car C k] in
theorem RowsC.mono {k:Nat} [Car C k] (h:RowsC C A w r l) (hA:∀ b,b<w.heap.size→A' b→A b):RowsC C A' w r l:=⟨h.1,fun i hi=>Car.mono (h.2 i hi) hA⟩
theorem RowsC.done {base:Nat} {e:TypeId} {v:Value} (h:RowsC C A w r l) (ho:Own w base e k v l.length r.flatten) (hl:l.length≤70368744177664) (hA:∀ j,A' j→A j) (hb:∀ j,base≤j→¬ A' j):RecsAt C k A' w v l:=
  RecOwn.done (A:=A) ⟨r,h.1,ho,fun i hi=>Car.len (h.2 i hi),h.2⟩ hl hA hb
theorem RowsC.doneB {base:Nat} {e:TypeId} {v:Value} (h:RowsC C A w r l) (ho:Own w base e k v l.length r.flatten) (hl:l.length≤70368744177664) (hA:∀ j,A' j→A j) (hb:∀ j,some j=v.ownBlock→¬ A' j):RecsAt C k A' w v l:=by
  have h1:=h.done (A':=fun j=>A' j∧j<base) ho hl (fun j hj=>hA j hj.1) (fun j h1 h2=>by omega);obtain ⟨p,cap,row,e1,g1,g2,g3,hR⟩:=h1;refine ⟨p,cap,row,e1,g1,g2,g3,fun hne=>?_,hR.len,fun i hi=>?_⟩
  · obtain ⟨b,o,hp,-,hc⟩:=hR.at_ hne;exact ⟨b,o,hp,hb b (by rw [e1,hp];rfl),hc⟩
  · obtain ⟨b,o,hp,-,hc⟩:=hR.at_ (by rintro rfl;simp at hi);have hrow:row i=r.getD i []:=by
      rcases Own.open ho with ⟨h1,h2,h3⟩ | ⟨g,cp,tl,h1,-,-,-,hbx⟩
      · rw [h2] at hi;omega
      · have hr:∀ q∈r,q.length=k:=h.lens;rw [h1,hp] at e1;simp only [Value.slice.injEq,Option.some.injEq,Addr.mk.injEq,and_true] at e1;obtain ⟨⟨rfl,rfl⟩,-⟩:=e1;have hri:i<r.length:=by rw [h.1];exact hi
        have hl1:(r.getD i []).length=k:=Car.len (h.2 i hi);apply List.ext_getElem?;intro j;by_cases hj:j<k
        · rw [← hc i j hi hj,Nat.zero_add,← flatk hr hj hri];have hv:(r.getD i [])[j]? = some ((r.getD i [])[j]'om_):=List.getElem?_eq_getElem om_;have hf:=flatk hr hj hri;rw [hv] at hf;have hlt:i * k+j<r.flatten.length:=(List.getElem?_eq_some_iff.1 hf).1;rw [hf];exact hbx.cell (by rw [List.getElem?_append_left hlt];exact hf)
        · rw [List.getElem?_eq_none (by rw [hR.len i hi];omega),List.getElem?_eq_none om_]
    rw [hrow];exact Car.mono (h.2 i hi) fun j _ hj=>hA j hj
omit [Car C k] in
theorem own_box_ne {base sz n:Nat} {e T:TypeId} {v:Value} {xs cs:List Value} {b:Nat} (h:Own w base e sz v n xs) (hb:Box w b T cs) (hne:Nat.beq e T=false):¬ some b=v.ownBlock:=fun hj=>by
  rcases h.2 with ⟨rfl,-⟩ | ⟨g,cap,cur,rfl,-,hg,-⟩
  · simp [Value.ownBlock] at hj
  · simp [Value.ownBlock] at hj;subst hj;unfold Box at hb;rw [hb] at hg;have:T=e:=by simp at hg;exact hg.2
    subst this;simp at hne
end
end
end Go.Gx
