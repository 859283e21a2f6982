/- Groups of names: the program's. Conditions: none. -/
import Derived.Test.YtigcdmnhmfeioaaGgGrN
import Derived.Test.YtigcdmnhmfeioaaGgGrF
import Derived.Test.YtigcdmnhmfeioaaGgGrS
import Derived.Test.YtigcdmnhmfeioaaGgGrU
namespace Go.Gx
open Go.Proofs Go.Sort
theorem kgro_en24:Go.Proofs.Enters Try.prog 24:=Go.Proofs.enters_of Try.func24 kr_ rfl
theorem kgro_en34:Go.Proofs.Enters Try.prog 34:=Go.Proofs.enters_of Try.func34 kr_ rfl
theorem kgro_en35:Go.Proofs.Enters Try.prog 35:=Go.Proofs.enters_of Try.func35 kr_ rfl
theorem kgro_en36:Go.Proofs.Enters Try.prog 36:=Go.Proofs.enters_of Try.func36 kr_ rfl
theorem kgro_en37:Go.Proofs.Enters Try.prog 37:=Go.Proofs.enters_of Try.func37 kr_ rfl
theorem kgro_en38:Go.Proofs.Enters Try.prog 38:=Go.Proofs.enters_of Try.func38 kr_ rfl
theorem kgro_fo62_1:fieldOff Try.prog 62 1=some 1:=by kernel_rfl
theorem kgro_fo62_5:fieldOff Try.prog 62 5=some 5:=by kernel_rfl
theorem kgro_oc32:oneCellT Try.prog 32=true:=by kernel_rfl
theorem kgro_oc49:oneCellT Try.prog 49=true:=by kernel_rfl
theorem kgro_oc9:oneCellT Try.prog 9=true:=by kernel_rfl
theorem kgro_si62:structInfo Try.prog 62=some ([(0,1),(1,1),(2,1),(3,1),(4,1),(5,1)],[Value.map none,Value.map none,Value.map none,Value.map none,Value.slice none 0 0,Value.slice none 0 0]):=by kernel_rfl
theorem kgro_sz9:(Try.prog.info? 9).map (·.size)=some 1:=by kernel_rfl
theorem swo_cmpL (out:List (List Str)) (m:Nat):SWO (ltc (fun x y:Fin (m+1)=>cmpL (out.getD x.val []) (out.getD y.val []))) where
  irrefl x:=by show decide (cmpL _ _<0)=_;rw [cmpL_lt];exact swo_ltL.irrefl _
  trans x y z h1 h2:=by
    have h1:decide (cmpL _ _<0)=true:=h1;have h2:decide (cmpL _ _<0)=true:=h2;show decide (cmpL _ _<0)=_;rw [cmpL_lt] at h1 h2 ⊢;exact swo_ltL.trans _ _ _ h1 h2
  ntrans x y z h1 h2:=by
    have h1:decide (cmpL _ _<0)=false:=h1;have h2:decide (cmpL _ _<0)=false:=h2;show decide (cmpL _ _<0)=_;rw [cmpL_lt] at h1 h2 ⊢;exact swo_ltL.ntrans _ _ _ h1 h2
theorem sortGs (base:Nat) (A:Nat→Prop) (a:Option Addr) (c:Nat) (rows:List (List Value)) (out:List (List Str)) (w:World) (hO:Own w base 23 1 (.slice a out.length c) out.length rows.flatten) (hR:RowsC GsC A w rows out)
    (hA:∀ k,some k=(Value.slice a out.length c).ownBlock→A k) (hA2:∀ k,w.heap.size≤k→A k) (hn:out.length≤400000) (hne:(a=none∧c=0∧out=[])∨out≠[]):
    Ret Try.prog 37 #[.slice a out.length c,.func (.func 38) #[] #[]] w fun _ w'=>(∃ rows' out',out'.Perm out∧(out'.Pairwise fun x y=>ltL y x=false)∧Own w' base 23 1 (.slice a out.length c) out.length rows'.flatten∧RowsC GsC A w' rows' out')∧Gr (fun k=>some k=(Value.slice a out.length c).ownBlock) w w':=by
  rcases hne with ⟨rfl,rfl,rfl⟩ | hne
  · refine Calls.mono (sortfunc0 38 w) fun e w' ⟨u,he,hw⟩=>⟨u,he,⟨rows,[],List.Perm.refl _,List.Pairwise.nil,hO.carry hw,hR.carry hw⟩,hw.mono fun _ _ f=>f.elim⟩
  · obtain ⟨m,hm⟩:∃ m,out.length=m+1:=⟨out.length - 1,by have:=List.length_pos_iff.2 hne;omega⟩;obtain ⟨h0,hh⟩:=hO;rcases hh with ⟨-,e2⟩ | ⟨b,cap,cur,e1,hb,hg,hk,hc,hcs,ht⟩
    · omega
    · cases e1;rw [Nat.mul_one] at hcs ht;obtain ⟨enc,henc⟩:∃ f:Fin (m+1)→Value,f=fun x=>(rows.getD x.val []).getD 0 (.bool false):=⟨_,rfl⟩
      have hone:∀ x:Fin (m+1),rows.getD x.val []=[enc x]∧StrsAt A w (enc x) (out.getD x.val []):=fun x=>by
        obtain ⟨v,e,h⟩:=hR.2 x.val om_;rw [henc];show rows.getD x.val []=[(rows.getD x.val []).getD 0 (.bool false)]∧StrsAt A w ((rows.getD x.val []).getD 0 (.bool false)) _;rw [e];exact ⟨rfl,h⟩
      have he1:∀ x,(enc x).oneCell'=true:=fun x=>by
        obtain ⟨p,cap,e,-⟩:=(hone x).2;rw [e];rfl
      have hfl:(Array.ofFn (fun x:Fin (m+1)=>x)).toList.map enc=rows.flatten:=by
        have hr:rows=(List.ofFn (fun x:Fin (m+1)=>x)).map fun x=>[enc x]:=by
          refine List.ext_getElem (by rw [hR.1,List.length_map,List.length_ofFn,hm]) fun i h1 h2=>?_
          rw [List.getElem_map,List.getElem_ofFn];have:=(hone ⟨i,by rw [← hm,← hR.1];exact h1⟩).1;rw [List.getD_eq_getElem?_getD,List.getElem?_eq_getElem h1] at this;exact this
        conv=>rhs;rw [hr]
        rw [Array.toList_ofFn];generalize List.ofFn (fun x:Fin (m+1)=>x)=q;induction q with
        | nil=>rfl
        | cons y q ih=>rw [List.map_cons,List.map_cons,List.flatten_cons,← ih];rfl
      have hbox:Box w b 23 ([]++(Array.ofFn (fun x:Fin (m+1)=>x)).toList.map enc++cur.toList.drop out.length):=by
        rw [hfl,← ht,List.nil_append,List.take_append_drop];unfold Box;rw [Array.toArray_toList];exact hg
      have hC:Cmp Try.prog enc 38 [] (fun x y:Fin (m+1)=>cmpL (out.getD x.val []) (out.getD y.val [])) b w.heap.size w:=
        ⟨Nat.le_refl _,fun w' g x y=>by
          have hA3:∀ k,(k=b∨w.heap.size≤k)→A k:=fun k e=>by
            rcases e with e | e
            · exact hA k (by rw [e];rfl)
            · exact hA2 k e
          exact less36 A A _ _ _ _ w' ((hone x).2.carryR g hA3) ((hone y).2.carryR g hA3)⟩
      have key:=sortfunc_okG (α := Fin (m+1)) kgro_en38 he1 (swo_cmpL out m) b 0 c out.length 23 [] (cur.toList.drop out.length) (Array.ofFn (fun x:Fin (m+1)=>x)) w hC ⟨rfl,hbox⟩ (by simp [hm]) om_ om_;refine Calls.mono key fun e w' ⟨u,he,_,hgr,d',hR',hp,hs⟩=>⟨u,he,⟨d'.toList.map (fun x=>[enc x]),d'.toList.map (fun x=>out.getD x.val []),?_,?_,?_,?_⟩,hgr.mono fun k _ e=>by have e:k=b:=e;rw [e];rfl⟩
      · have h3:=hp.2.2;have ex:∀ d:Array (Fin (m+1)),d.size=out.length→(d.extract 0 out.length).toList=d.toList:=fun d h=>by simp [← h]
        have e1:=ex d' (by have:=hp.1;simpa [hm] using this);have e2:=ex (Array.ofFn (fun x:Fin (m+1)=>x)) (by simp [hm]);rw [e1,e2] at h3;refine (h3.map _).trans (List.Perm.of_eq ?_);refine List.ext_getElem (by simp [hm]) fun i h1 h2=>?_
        rw [List.getElem_map,List.getD_eq_getElem?_getD];simp only [Array.getElem_toList,Array.getElem_ofFn];rw [List.getElem?_eq_getElem h2];rfl
      · have hsz:d'.size=out.length:=by have:=hp.1;simpa [hm] using this
        rw [List.pairwise_map,List.pairwise_iff_getElem];intro i j hi hj hij;have hi':i<d'.size:=by simpa using hi
        have hj':j<d'.size:=by simpa using hj
        have h3:=hs i j (Nat.zero_le _) hij om_;rw [getElem!_pos d' j hj',getElem!_pos d' i hi'] at h3;rw [← cmpL_lt];simpa using h3
      · have hsz:d'.size=out.length:=by have:=hp.1;simpa [hm] using this
        have e1:∀ q:List (Fin (m+1)),(q.map fun x=>[enc x]).flatten=q.map enc:=fun q=>by
          induction q with
          | nil=>rfl
          | cons y q ih=>rw [List.map_cons,List.map_cons,List.flatten_cons,ih];rfl
        rw [e1];have hbx:=hR'.2;rw [List.nil_append] at hbx;refine ⟨by rw [List.length_map];simpa using hsz,.inr ⟨b,c,(d'.toList.map enc++cur.toList.drop out.length).toArray,rfl,hb,hbx,hk,hc,?_,?_⟩⟩
        · rw [List.size_toArray,List.length_append,List.length_map,List.length_drop,Array.length_toList,Array.length_toList,hsz];omega
        · rw [Nat.mul_one,List.take_left' (by rw [List.length_map,Array.length_toList,hsz])]
      · refine ⟨by rw [List.length_map,List.length_map],fun i hi=>?_⟩;rw [List.length_map] at hi;have hA3:∀ k,k=b→A k:=fun k e=>hA k (by rw [e];rfl)
        have h:=(hone (d'.toList[i]'hi)).2.carryR hgr hA3;refine ⟨enc (d'.toList[i]'hi),?_,?_⟩
        · rw [List.getD_eq_getElem?_getD,List.getElem?_map,List.getElem?_eq_getElem hi];rfl
        · rw [List.getD_eq_getElem?_getD,List.getElem?_map,List.getElem?_eq_getElem hi];exact h
set_option maxHeartbeats 2000000 in
theorem groupsP (A0 A1:Nat→Prop) (v u:Value) (names:List Str) (l:List Arc) (w:World) (h0:StrsAt A0 w v names) (h1:ArcsAt A1 w u l) (hn:names.length≤400000) (hll:l.length≤400000):
    Ret Try.prog 17 #[v,u] w fun r w'=>GssAt (fun k=>k<w.heap.size) w' r (groupsS (nextS (countL (onceL names) l)) (onceL names))∧Bel w w':=by
  have hxn:=h0.short;obtain ⟨q,cq,rfl,-⟩:=id h0;obtain ⟨p,cap,row,rfl,-⟩:=id h1;obtain ⟨U,hUe⟩:∃ a,a=onceL names:=⟨_,rfl⟩;have hst:Strict U:=by rw [hUe];exact strict_once _
  have hal:U.length≤400000:=by rw [hUe];exact Nat.le_trans (once_len _) hn
  have hxa:∀ x∈U,x.length≤9223372036854775807:=by rw [hUe];exact once_short hxn
  refine ret_of_W Try.func17 rfl (Nat.le_of_ble_eq_true rfl) (res1 rfl) ?_;have hB:=Gr.refl (fun _=>False) w;refine W.seq (W.region (L.val (x_as (v:=.slice _ _ _) rfl) rfl ?_));refine L.nil (thn_n (W.seq (W.region (L.val (x_mv (v:=.slice _ _ _) rfl) rfl ?_))));refine L.ret (x_call kgro_en34 rfl) rfl (sorted36 _ _ names _ h0 hn) ?_;rintro v10 w10 ⟨hL0,hw⟩;have hB:=hB.carry hw;have h1:=h1.carry hw;rw [← hUe] at hL0 ⊢;obtain ⟨pa,ca,rfl,-⟩:=hL0.shape;have hs10:=hw.size;have hL:=hL0.strs hxa om_ (fun k=>k<w.heap.size) (fun j hj e=>by have e:j<_:=e;omega);refine L.val (x_as (v:=.slice _ _ _) rfl) rfl ?_;refine L.nil (thn_n (W.seq (W.region (L.val (x_mv (v:=.slice _ _ _) rfl) rfl ?_))));refine L.val (x_mv (v:=.slice _ _ _) rfl) rfl ?_;refine L.ret (x_call kgro_en35 rfl) rfl (among36 _ _ _ _ U l _ hL h1 hll) ?_;rintro v13 w13 ⟨hc,hw⟩;have hB:=hB.carry hw;have h1:=h1.carry hw;have hL:=hL.carry hw;obtain ⟨cl,hcl⟩:∃ c,c=countL U l:=⟨_,rfl⟩;rw [← hcl] at hc ⊢;obtain ⟨pc,cc,rc,rfl,-⟩:=id hc;have hs13:=hw.size;have hUc:∀ x∈U,∀ y∈nextS cl x,y∈U:=fun x _ y hy=>by
    have:=mem_next.1 hy;rw [hcl] at this;exact (mem_count.1 this).2.2
  refine L.ret (x_call kgro_en24 rfl) rfl (outs36 _ _ cl _ hc (by have:=count_len U l;rw [hcl];omega)) ?_;rintro _ w14 ⟨⟨rfl,hN⟩,hw⟩;have hB:=hB.carry hw;have h1:=h1.carry hw;have hL:=hL.carry hw;have hs14:=hB.size;have hbN:=hN.lt;obtain ⟨m,hm⟩:∃ m,m=w14.heap.size:=⟨_,rfl⟩;have hN:=hN.mono (A':=fun k=>m≤k) (fun k hk e=>absurd hk (by have e:m≤k:=e;omega));have hL:=hL.mono (A':=fun k=>k<w.heap.size∨m≤k) (fun k hk e=>e.resolve_right om_);refine L.mkmapK (κ := Str) (K:=S) (V:=fun _=>True) Try.underlying49 rfl (fun w15 mS hw hz15=>?_);have hB:=hB.carry hw;have h1:=h1.carry hw;have hL:=hL.carry hw;have hN:=hN.carry hw;rw [← hm] at mS ⊢;have mS:IM w15 m []:=mS;refine L.mkmapK (κ := Str) (K:=S) (V:=fun _=>True) Try.underlying49 rfl (fun w16 mL hw hz16=>?_);have hB:=hB.carry hw;have h1:=h1.carry hw;have hL:=hL.carry hw;have hN:=hN.carry hw;have mS:=mS.carry hw;have ez:w15.heap.size=m+1:=by omega
  rw [ez] at mL ⊢;have mL:IM w16 (m+1) []:=mL;refine L.mkmapK (κ := Str) (K:=S) (V:=fun _=>True) Try.underlying49 rfl (fun w17 mO hw hz17=>?_);have hB:=hB.carry hw;have h1:=h1.carry hw;have hL:=hL.carry hw;have hN:=hN.carry hw;have mS:=mS.carry hw;have mL:=mL.carry hw;have ez:w16.heap.size=m+2:=by omega
  rw [ez] at mO ⊢;have mO:IM w17 (m+2) []:=mO;refine L.val (x_build (cells:=[.map _,.map _,.map _,.map _,.slice _ _ _,.slice _ _ _]) kgro_si62 rfl rfl) rfl ?_;refine L.box (cs:=_) rfl rfl (fun w19 bx19 hw hz19=>?_);have hB:=hB.carry hw;have h1:=h1.carry hw;have hL:=hL.carry hw;have hN:=hN.carry hw;have mS:=mS.carry hw;have mL:=mL.carry hw;have mO:=mO.carry hw;have ez:w17.heap.size=m+3:=by omega
  rw [ez] at bx19 ⊢;have hW0:WkAt m w13.heap.size (nextS cl) w19 (.slice none 0 0) (.slice none 0 0) [] ⟨[],[],[],[],[]⟩:=⟨bx19,mS,mL,mO,hN,own_nil,own_nil,RowsC.nil⟩;refine L.val (x_as (v:=.pointer _) rfl) rfl ?_;refine L.nil (thn_n (W.seq (W.seq (W.region (L.val (x_mv (v:=.slice _ _ _) rfl) rfl ?_)))));refine L.val (x_len_slice Try.underlying23 rfl) rfl ?_;refine L.val (x_mv (v:=.int _ _) rfl) rfl ?_;refine L.nil (thn_n (W.block (W.loop (fun m' E w'=>∃ (i:Nat) (s:TS) (vK vO:Value) (rows:List (List Value)),m'=U.length - i∧E 6=.pointer (some ⟨m+3,0,none⟩)∧E 20=.slice pa U.length ca∧E 21=.int .i64 (U.length:Nat)∧E 22=.int .i64 (i:Nat)∧(i≤U.length)∧(Bel w w')∧(StrsAt (fun k=>k<w.heap.size∨m≤k) w' (.slice pa U.length ca) U)∧(WkAt m w13.heap.size (nextS cl) w' vK vO rows s)∧(Inv (nextS cl) U s [])∧(∀ x∈U.take i,1≤s.num x)∧(i=0→vO=.slice none 0 0∧s.out=[])) (U.length) ?_ ?_)))
  ·exact ⟨0,⟨[],[],[],[],[]⟩,_,_,[],by omega,by first | rfl | exact vi om_ | exact vs (by first | assumption | (rw [hst];done) | (rw [hst];simp only [List.append_assoc])),by first | rfl | exact vi om_ | exact vs (by first | assumption | (rw [hst];done) | (rw [hst];simp only [List.append_assoc])),by first | rfl | exact vi om_ | exact vs (by first | assumption | (rw [hst];done) | (rw [hst];simp only [List.append_assoc])),by first | rfl | exact vi om_ | exact vs (by first | assumption | (rw [hst];done) | (rw [hst];simp only [List.append_assoc])),ao_,ao_,ao_,(by exact hW0),(by exact inv0),(by intro x hx;simp at hx),(by exact fun _=>⟨rfl,rfl⟩)⟩
  ·rintro _ E wL23 ⟨i,s,vK,vO,rows,em,e6,e20,e21,e22,hi,hB,hL,hW,hI,hall,hv⟩;rw [upd_self e6,upd_self e20,upd_self e21,upd_self e22];refine W.seq (W.region ?_);have hsL:=hB.size;refine L.val (x_lss rfl rfl) rfl ?_;refine L.nil (thn_n (W.seq (W.cond (b:=_) rfl (fun g23=>?_) (fun g23=>?_))))
   ·have h23:=of_decide_eq_true g23;have hlt:i<U.length:=by omega
    have hts:=take_snoc (d:=([]:Str)) hlt;obtain ⟨bV,oV,rfl,hcV⟩:=hL.elem hlt;obtain ⟨n,hne⟩:∃ x,x=U.getD i []:=⟨_,rfl⟩;have hnU:n∈U:=by rw [hne,List.getD_eq_getElem?_getD,List.getElem?_eq_getElem hlt];exact List.getElem_mem _
    rw [← hne] at hcV;have hbx:=hW.bx;have hmS:=hW.mS;refine W.skip (thn_n (W.seq (W.block (W.seq (W.region (L.val (x_ia1 (j:=i) Try.underlying23 kgro_sz9 rfl rfl om_ om_) rfl ?_))))));refine L.val (x_ld (v:=S _) kgro_oc9 rfl hcV) rfl ?_;refine L.val (x_as (v:=S _) rfl) rfl ?_;refine L.nil (thn_n (W.seq (W.region (L.val (x_mv (v:=.pointer _) rfl) rfl ?_))));refine L.val (x_nil rfl) rfl ?_;refine L.val (x_fa kgro_fo62_1 rfl) rfl ?_;refine L.val (x_ld (v:=.map _) kgro_oc49 rfl (hbx.cell0 rfl)) rfl ?_;refine L.val (x_mv (v:=S _) rfl) rfl ?_;refine L.val (x_look0 (z:=.int .i64 0) Try.underlying49 (klawS Try.underlying9) kr_ rfl rfl trivial hmS (getI_look _ n)) rfl ?_;refine L.val (x_eql rfl rfl) rfl ?_;refine L.nil (thn_n (W.cond (b:=_) rfl (fun g32=>?_) (fun g32=>?_)))
    ·have h32:=of_decide_eq_true g32;refine W.region (L.val (x_mv (v:=.pointer _) rfl) rfl ?_);refine L.val (x_mv (v:=S _) rfl) rfl ?_;refine L.ret (x_call kgro_en36 rfl) rfl (walkP (nextS cl) U m w13.heap.size om_ hUc hst hxa hal U.length n s [] _ _ _ _ hW hI h32 hnU (by simp) (List.length_filter_le _ _)) ?_;rintro _ w35 ⟨⟨vK2,vO2,rows2,hW2⟩,hg⟩;have hP:=wk_ok hUc hst U.length n s [] hI h32 hnU (by simp) (List.length_filter_le _ _);have hB:=hB.step hg (fun k hk e=>by have e:m≤k:=e;omega);have hL:=hL.carryR hg (fun k e=>.inr e);have hI2:=hP.inv;have hall2:∀ x∈U.take (i+1),1≤(wk (nextS cl) U.length n s).num x:=fun x hx=>by
       rw [hts,← hne] at hx;rcases List.mem_append.1 hx with hx | hx
       · have h1:=hall x hx;rw [(hP.mono x h1).1];exact h1
       · rw [List.mem_singleton.1 hx];have:=hP.fresh;omega
     rw [hne] at hW2 hI2 hall2;refine L.nil (blk_n (thn_n (W.region (L.val (x_add rfl rfl (wr64 om_)) rfl ?_))));refine L.val (x_mv (v:=.int _ _) rfl) rfl ?_;refine L.nil (thn_n ⟨rfl,?_⟩);first
       | (refine ⟨_,?_,i+1,wk (nextS cl) U.length (U.getD i []) s,vK2,vO2,rows2,rfl,by first | rfl | exact vi om_ | exact vs (by first | assumption | (rw [hst];done) | (rw [hst];simp only [List.append_assoc])),by first | rfl | exact vi om_ | exact vs (by first | assumption | (rw [hst];done) | (rw [hst];simp only [List.append_assoc])),by first | rfl | exact vi om_ | exact vs (by first | assumption | (rw [hst];done) | (rw [hst];simp only [List.append_assoc])),by first | rfl | exact vi om_ | exact vs (by first | assumption | (rw [hst];done) | (rw [hst];simp only [List.append_assoc])),ao_,ao_,ao_,(by exact hW2),(by exact hI2),(by exact hall2),(by exact fun e=>absurd e om_)⟩;omega)
       | (refine ⟨_,?_,i+1,s,vK,vO,rows,rfl,by first | rfl | exact vi om_ | exact vs (by first | assumption | (rw [hst];done) | (rw [hst];simp only [List.append_assoc])),by first | rfl | exact vi om_ | exact vs (by first | assumption | (rw [hst];done) | (rw [hst];simp only [List.append_assoc])),by first | rfl | exact vi om_ | exact vs (by first | assumption | (rw [hst];done) | (rw [hst];simp only [List.append_assoc])),by first | rfl | exact vi om_ | exact vs (by first | assumption | (rw [hst];done) | (rw [hst];simp only [List.append_assoc])),ao_,ao_,ao_,(by exact hW2),(by exact hI2),(by exact hall2),(by exact fun e=>absurd e om_)⟩;omega)
    ·have h32:=of_decide_eq_false g32;have hW2:=hW;have hI2:=hI;have hall2:∀ x∈U.take (i+1),1≤s.num x:=fun x hx=>by
       rw [hts,← hne] at hx;rcases List.mem_append.1 hx with hx | hx
       · exact hall x hx
       · rw [List.mem_singleton.1 hx];have h1:=(hI.sn n).2.1;have h32:¬ s.num n=0:=h32;omega
     refine W.skip (blk_n (thn_n (W.region (L.val (x_add rfl rfl (wr64 om_)) rfl ?_))));refine L.val (x_mv (v:=.int _ _) rfl) rfl ?_;refine L.nil (thn_n ⟨rfl,?_⟩);first
       | (refine ⟨_,?_,i+1,wk (nextS cl) U.length (U.getD i []) s,vK2,vO2,rows2,rfl,by first | rfl | exact vi om_ | exact vs (by first | assumption | (rw [hst];done) | (rw [hst];simp only [List.append_assoc])),by first | rfl | exact vi om_ | exact vs (by first | assumption | (rw [hst];done) | (rw [hst];simp only [List.append_assoc])),by first | rfl | exact vi om_ | exact vs (by first | assumption | (rw [hst];done) | (rw [hst];simp only [List.append_assoc])),by first | rfl | exact vi om_ | exact vs (by first | assumption | (rw [hst];done) | (rw [hst];simp only [List.append_assoc])),ao_,ao_,ao_,(by exact hW2),(by exact hI2),(by exact hall2),(by exact fun e=>absurd e om_)⟩;omega)
       | (refine ⟨_,?_,i+1,s,vK,vO,rows,rfl,by first | rfl | exact vi om_ | exact vs (by first | assumption | (rw [hst];done) | (rw [hst];simp only [List.append_assoc])),by first | rfl | exact vi om_ | exact vs (by first | assumption | (rw [hst];done) | (rw [hst];simp only [List.append_assoc])),by first | rfl | exact vi om_ | exact vs (by first | assumption | (rw [hst];done) | (rw [hst];simp only [List.append_assoc])),by first | rfl | exact vi om_ | exact vs (by first | assumption | (rw [hst];done) | (rw [hst];simp only [List.append_assoc])),ao_,ao_,ao_,(by exact hW2),(by exact hI2),(by exact hall2),(by exact fun e=>absurd e om_)⟩;omega)
   ·have h23:=dlt_f g23;have hii:i=U.length:=by omega
    rw [hii,List.take_length] at hall;obtain ⟨hbx,mS,mL,mO,hN,hK,hO,hR⟩:=hW;obtain ⟨aO,cO,eO,hcO⟩:=own_shape hO;subst eO;have hlO:=fun j hj=>Own.lt hO (j:=j) hj
    have hb3:=hbx.lt;have hne:(aO=none∧cO=0∧s.out=[])∨s.out≠[]:=by
      by_cases e:U=[]
      · have h0:i=0:=by rw [hii,e];rfl
        obtain ⟨e1,e2⟩:=hv h0;rw [e2] at e1;cases e1;exact .inl ⟨rfl,rfl,e2⟩
      · right;intro e2;obtain ⟨x,r,ex⟩:=List.exists_cons_of_ne_nil e;have h1:=hI.cov x (hall x (by rw [ex];simp)) (by rw [hI.empty];simp);rw [e2] at h1;cases h1
    have hol:=hI.out_len;refine W.exit (thn_x (thn_x (blk_hit ?_)));refine thn_n (W.seq (W.region (L.val (x_mv (v:=.pointer _) rfl) rfl ?_)));refine L.val (x_nil rfl) rfl ?_;refine L.val (x_fa kgro_fo62_5 rfl) rfl ?_;refine L.val (x_ld (v:=.slice _ _ _) kgro_oc32 rfl (hbx.cell0 rfl)) rfl ?_;refine L.ret (x_call kgro_en37 rfl) rfl (sortGs (m+4) _ aO cO rows s.out _ hO hR (fun k hk=>.inr (.inr (.inr (.inl hk)))) (fun k hk=>.inr (.inr (.inr (.inr hk)))) om_ hne) ?_;rintro _ w41 ⟨⟨rows',out',hp,hsrt,hO2,hR2⟩,hg⟩;have hbx:=hbx.carryR hg (fun e=>by have:=hlO _ e;omega);have hB:=hB.step hg (fun k hk e=>by have:=hlO k e;omega);have hfin:=groups_eq hst hI hall hp hsrt;have hO3:Own w41 (m+4) 23 1 (.slice aO s.out.length cO) out'.length rows'.flatten:=by rw [hp.length_eq];exact hO2
    refine L.nil (thn_n (W.seq (W.region (L.val (x_mv (v:=.pointer _) rfl) rfl ?_))));refine L.val (x_nil rfl) rfl ?_;refine L.val (x_fa kgro_fo62_5 rfl) rfl ?_;refine L.val (x_ld (v:=.slice _ _ _) kgro_oc32 rfl (hbx.cell0 rfl)) rfl ?_;refine L.val (x_as (v:=.slice _ _ _) rfl) rfl ?_;refine L.nil (thn_n (W.ret (fin_mk (.inr rfl) ?_)));rw [← hfin];exact ⟨(show GssAt (fun k=>k<w.heap.size) _ _ out' from hR2.doneB (base:=m+4) (e:=23) hO3 (by have:=hp.length_eq;omega) (fun j h=>.inl (by have h:j<_:=h;omega)) (fun j h h2=>by have h:=Own.lt hO3 h;have h2:j<_:=h2;omega)),hB⟩
end Go.Gx
namespace Go.Gx
open Go.Sort
def nmW:List Str:=[[100],[97],[98],[99]]
def arW:List Arc:=[([97],[98]),([98],[99]),([100],[98])]
def arW2:List Arc:=[([97],[98]),([98],[99]),([100],[98]),([99],[97])]
theorem awO:ordS nmW arW=some [[99],[98],[97],[100]]:=by decide +kernel
theorem awO2:ordS nmW arW2=none:=by decide +kernel
def runT (E:Str→List Str) (U:List Str):TS:=U.foldl (fun s n=>if s.num n=0 then wk E U.length n s else s) ⟨[],[],[],[],[]⟩
theorem run_inv {E:Str→List Str} {U:List Str} (hU:∀ x∈U,∀ y∈E x,y∈U) (hs:Strict U):Inv E U (runT E U) []∧∀ x∈U,1≤(runT E U).num x:=by
  have key:∀ (r pre:List Str) (s:TS),pre++r=U→Inv E U s []→(∀ x∈pre,1≤s.num x)→Inv E U (r.foldl (fun s n=>if s.num n=0 then wk E U.length n s else s) s) []∧∀ x∈U,1≤(r.foldl (fun s n=>if s.num n=0 then wk E U.length n s else s) s).num x:=by
    intro r;induction r with
    | nil=>intro pre s e h1 h2;rw [List.append_nil] at e;rw [e] at h2;exact ⟨h1,h2⟩
    | cons n r ih=>
      intro pre s e h1 h2;have hn:n∈U:=by rw [← e];simp
      rw [List.foldl_cons];by_cases h0:s.num n=0
      · rw [if_pos h0];have hP:=wk_ok hU hs U.length n s [] h1 h0 hn (by simp) (List.length_filter_le _ _);refine ih (pre++[n]) _ (by rw [← e];simp) hP.inv fun x hx=>?_
        rcases List.mem_append.1 hx with hx | hx
        · rw [(hP.mono x (h2 x hx)).1];exact h2 x hx
        · rw [List.mem_singleton.1 hx];have:=hP.fresh;omega
      · rw [if_neg h0];refine ih (pre++[n]) _ (by rw [← e];simp) h1 fun x hx=>?_
        rcases List.mem_append.1 hx with hx | hx
        · exact h2 x hx
        · rw [List.mem_singleton.1 hx];have:=(h1.sn n).2.1;omega
  exact key U [] _ rfl inv0 (by simp)
theorem awG:groupsS (nextS (countL (onceL nmW) arW2)) (onceL nmW)=[[[97],[98],[99]],[[100]]]:=by
  have hst:Strict (onceL nmW):=strict_once _;obtain ⟨h1,h2⟩:=run_inv (E:=nextS (countL (onceL nmW) arW2)) (fun x _ y hy=>(mem_count.1 (mem_next.1 hy)).2.2) hst;have he:(runT (nextS (countL (onceL nmW) arW2)) (onceL nmW)).out=[[[97],[98],[99]],[[100]]]:=by decide +kernel
  exact (groups_eq hst h1 h2 (List.Perm.of_eq he.symm) (by decide +kernel)).symm
theorem awR:reachS arW [[98]]=[[98],[99]]:=by
  refine (reach_eq (by unfold Strict;decide +kernel) (by decide +kernel) (by decide +kernel) fun x hx=>?_).symm;have h1:Rch arW [[98]] [98]:=Rch.base (by simp);rcases List.mem_cons.1 hx with e | hx
  · rw [e];exact h1
  · rw [List.mem_singleton.1 hx];exact Rch.step h1 (by decide +kernel)
theorem awP:IsPath (nextS arW) [97] [99] [[97],[98],[99]]:=by
  have e1:nextS arW [97]=[[98]]:=by decide +kernel
  have e2:nextS arW [98]=[[99]]:=by decide +kernel
  have hb:Wk (nextS arW) [99] 1 [98]:=⟨[99],by rw [e2];simp,rfl⟩;have ha:Wk (nextS arW) [99] 2 [97]:=⟨[98],by rw [e1];simp,hb⟩;refine .inr ⟨2,⟨ha,fun j hj hw=>?_⟩,?_⟩
  · rcases j with _ | _ | j
    · have e:([97]:Str)=[99]:=hw;exact absurd e (by decide)
    · obtain ⟨y,hy,hw⟩:=hw;rw [e1,List.mem_singleton] at hy;rw [hy] at hw;have e:([98]:Str)=[99]:=hw;exact absurd e (by decide)
    · omega
  · rw [way_step (k:=0) (y:=[98]) (by rw [e1];decide) (by rw [e1];rfl) hb (by simp),way_step (k:=0) (y:=[99]) (by rw [e2];decide) (by rw [e2];rfl) (show Wk (nextS arW) [99] 0 [99] from rfl) (by simp)];rfl
end Go.Gx
namespace Go.Gx
open Go.Proofs Go.Sort
theorem kgrv_fo36_0:fieldOff Try.prog 36 0=some 0:=by kernel_rfl
theorem kgrv_fo36_1:fieldOff Try.prog 36 1=some 1:=by kernel_rfl
theorem kgrv_mixed:Try.prog.follows .mixedOrders=true:=by kernel_rfl
theorem kgrv_oc9:oneCellT Try.prog 9=true:=by kernel_rfl
theorem kgrv_sz36:(Try.prog.info? 36).map (·.size)=some 2:=by kernel_rfl
theorem kgrv_sz9:(Try.prog.info? 9).map (·.size)=some 1:=by kernel_rfl
theorem same36 (A B:Nat→Prop) (v u:Value) (l m:List Str) (w:World) (h:StrsAt A w v l) (h':StrsAt B w u m):
    Ret Try.prog 11 #[v,u] w fun r w'=>r=.bool (decide (l=m))∧Bel w w':=by
  obtain ⟨pl,cl,rfl,a1,a2,a3,a4,-⟩:=id h;obtain ⟨pm,cm,rfl,b1,b2,b3,b4,-⟩:=id h';refine ret_of_W Try.func11 rfl (Nat.le_of_ble_eq_true rfl) (res1 rfl) ?_;have hB:=Gr.refl (fun _=>False) w;refine W.seq (W.region (L.val (x_as (v:=.bool _) rfl) rfl ?_));refine L.nil (thn_n (W.seq (W.seq (W.region (L.val (x_mv (v:=.slice _ _ _) rfl) rfl ?_)))));refine L.val (x_len_slice Try.underlying23 rfl) rfl ?_;refine L.val (x_mv (v:=.slice _ _ _) rfl) rfl ?_;refine L.val (x_len_slice Try.underlying23 rfl) rfl ?_;refine L.val (x_neq rfl rfl) rfl ?_;refine L.nil (thn_n (W.cond (b:=_) rfl (fun g10=>?_) (fun g10=>?_)))
  ·have h10:=dne_t g10;have hne:¬ l=m:=fun e=>by rw [e] at h10;exact h10 rfl
   refine W.seq (W.region (L.val (x_as (v:=.bool _) rfl) rfl ?_));refine L.nil (thn_n (W.ret (thn_r (fin_mk (.inr rfl) ?_))));rw [decide_eq_false hne];exact ⟨rfl,hB⟩
  ·have h10:=dne_f g10;have hlm:l.length=m.length:=by omega
   refine W.skip (thn_n (W.seq (W.seq (W.region (L.val (x_as (v:=.int _ _) rfl) rfl ?_)))));refine L.nil (thn_n (W.block (W.loop (fun m' E w'=>∃ (k:Nat),m'=l.length - k∧E 0=.slice pl l.length cl∧E 1=.slice pm m.length cm∧E 5=.int .i64 (k:Nat)∧(k≤l.length)∧(Bel w w')∧(StrsAt A w' (.slice pl l.length cl) l)∧(StrsAt B w' (.slice pm m.length cm) m)∧(l.take k=m.take k)) (l.length) ?_ ?_)))
   ·exact ⟨0,by omega,vi_,vi_,vi_,ao_,ao_,ao_,ao_,(by rfl)⟩
   ·rintro _ E wL11 ⟨k,em,e0,e1,e5,hk,hB,h,h',heq⟩;rw [upd_self e0,upd_self e1,upd_self e5];refine W.seq (W.seq (W.region (L.val (x_mv (v:=.int _ _) rfl) rfl ?_)));refine L.val (x_mv (v:=.slice _ _ _) rfl) rfl ?_;refine L.val (x_len_slice Try.underlying23 rfl) rfl ?_;refine L.val (x_lss rfl rfl) rfl ?_;refine L.nil (thn_n (W.cond (b:=_) rfl (fun g14=>?_) (fun g14=>?_)))
    ·have h14:=of_decide_eq_true g14;have hlt:k<l.length:=by omega
     have hlt2:k<m.length:=by omega
     obtain ⟨bl,ol,rfl,hc⟩:=h.elem hlt;obtain ⟨bm,om,rfl,hc'⟩:=h'.elem hlt2;refine W.skip (thn_n (W.seq (W.block (W.seq (W.drawB kgrv_mixed kr_ ?_)))));refine LQ.val (fun w hw=>x_mv (v:=.slice _ _ _) rfl) rfl ?_;refine LQ.val (fun w hw=>x_mv (v:=.int _ _) rfl) rfl ?_;refine LQ.val (fun w hw=>x_ia1 (j:=k) Try.underlying23 kgrv_sz9 rfl rfl om_ om_) rfl ?_;refine LQ.val (fun w hw=>x_ld (v:=S _) kgrv_oc9 rfl (hw.keep hc)) rfl ?_;refine LQ.val (fun w hw=>x_mv (v:=.slice _ _ _) rfl) rfl ?_;refine LQ.val (fun w hw=>x_mv (v:=.int _ _) rfl) rfl ?_;refine LQ.val (fun w hw=>x_ia1 (j:=k) Try.underlying23 kgrv_sz9 rfl rfl om_ om_) rfl ?_;refine LQ.val (fun w hw=>x_ld (v:=S _) kgrv_oc9 rfl (hw.keep hc')) rfl ?_;refine LQ.val (fun w hw=>x_nes rfl rfl) rfl ?_;refine LQ.nil ?_;intro w17 hw;have hB:=hB.carry hw;have h:=h.carry hw;have h':=h'.carry hw;refine thn_n (W.cond (b:=_) rfl (fun g25=>?_) (fun g25=>?_))
     ·have h25:=sne_t g25;have hne:¬ l=m:=fun e=>h25 (by rw [e])
      refine W.seq (W.region (L.val (x_as (v:=.bool _) rfl) rfl ?_));refine L.nil (thn_n (W.ret (blk_r (thn_r (thn_r (blk_r (thn_r (fin_mk (.inr rfl) ?_))))))));rw [decide_eq_false hne];exact ⟨rfl,hB⟩
     ·have h25:=sne_f g25;have he25:l.getD k []=m.getD k []:=h25;refine W.skip (blk_n (thn_n (W.region (L.val (x_mv (v:=.int _ _) rfl) rfl ?_))));refine L.val (x_add rfl rfl (wr64 om_)) rfl ?_;refine L.val (x_as (v:=.int _ _) rfl) rfl ?_;refine L.nil (thn_n ⟨rfl,?_⟩);refine ⟨_,?_,k+1,rfl,vi_,vi_,vi_,ao_,ao_,ao_,ao_,(by rw [take_snoc (d:=[]) hlt,take_snoc (d:=[]) hlt2,heq,he25])⟩;omega
    ·have h14:=dlt_f g14;refine W.exit (thn_x (thn_x (blk_hit ?_)));refine thn_n (W.seq (W.region (L.val (x_as (v:=.bool _) rfl) rfl ?_)));refine L.nil (thn_n (W.ret (fin_mk (.inr rfl) ?_)));have hh:l=m:=by
       have e1:l.take k=l:=by rw [show k=l.length by omega,List.take_length]
       have e2:m.take k=m:=by rw [show k=m.length by omega,List.take_length]
       rw [← e1,heq,e2]
     rw [decide_eq_true hh];exact ⟨rfl,hB⟩
theorem gs_at {A:Nat→Prop} {w:World} {b o:Nat} {row:Nat→List Value} {l:List (List Str)} (h:RecRow GsC 1 A w (some ⟨b,o,none⟩) row l) {k:Nat} (hk:k<l.length):∃ v,w.cell? ⟨b,o+k,none⟩=some v∧StrsAt A w v (l.getD k []):=by
  obtain ⟨v,e,hs⟩:=h.each k hk;have h1:=h.cell hk (j:=0) (u:=v) (by rw [e];rfl);rw [Nat.mul_one,Nat.add_zero] at h1;exact ⟨v,h1,hs⟩
theorem small36 (A B:Nat→Prop) (v u:Value) (l:List Str) (m:List Arc) (w:World) (h:StrsAt A w v l) (h':ArcsAt B w u m):
    Ret Try.prog 9 #[v,u] w fun r w'=>(∃ b,r=.bool b∧(b=true→l.length≤25∧m.length≤60))∧Bel w w':=by
  obtain ⟨pl,cl,rfl,a1,a2,a3,a4,-⟩:=id h;obtain ⟨pm,cm,rm,rfl,b1,b2,b3,hr⟩:=h';refine ret_of_W Try.func9 rfl (Nat.le_of_ble_eq_true rfl) (res1 rfl) ?_;have hB:=Gr.refl (fun _=>False) w;refine W.seq (W.region (L.val (x_as (v:=.bool _) rfl) rfl ?_));refine L.nil (thn_n (W.seq (W.seq (W.region (L.val (x_mv (v:=.slice _ _ _) rfl) rfl ?_)))));refine L.val (x_len_slice Try.underlying23 rfl) rfl ?_;refine L.val (x_gtr rfl rfl) rfl ?_;refine L.val (x_mv (v:=.bool _) rfl) rfl ?_;refine' L.group0 3 11 13 13 10 false rfl ?_ ?_ ?_;rotate_left 1
  ·intro g10;have h10:=dlt_f g10;refine L.gyes' (dj:=10) (b:=_) rfl rfl g10 ?_;refine L.val (x_mv (v:=.slice _ _ _) rfl) rfl ?_;refine L.gyes' (dj:=10) (b:=_) rfl rfl g10 ?_;refine L.val (x_len_slice Try.underlying22 rfl) rfl ?_;refine L.gyes' (dj:=10) (b:=_) rfl rfl g10 ?_;refine L.val (x_gtr rfl rfl) rfl ?_;refine L.nil (thn_n ⟨rfl,rfl,?_,rfl⟩);repeat (first | exact jeq.refl _ _ _ | refine jeq.upd rfl ?_ | refine jeq.jk rfl rfl ?_)
  ·intro g10;(iterate 3 refine L.gno (dj:=10) (b:=_) rfl rfl g10 rfl ?_);refine L.nil (thn_n ⟨rfl,rfl,?_⟩);repeat (first | exact jeq.refl _ _ _ | refine jeq.upd rfl ?_ | refine jeq.jk rfl rfl ?_)
  intro J10 j10;refine L.val (x_or rfl j10) rfl ?_;refine L.nil (thn_n (W.cond (b:=_) rfl (fun g14=>?_) (fun g14=>?_)))
  ·have h14:=g14;refine W.seq (W.region (L.val (x_as (v:=.bool _) rfl) rfl ?_));refine L.nil (thn_n (W.ret (thn_r (fin_mk (.inr rfl) ?_))));exact ⟨⟨_,rfl,fun e=>by cases e⟩,hB⟩
  ·have h14:=g14;have hsm:l.length≤25∧m.length≤60:=by
     rw [Bool.or_eq_false_iff] at g14;have h1:=of_decide_eq_false g14.1;have h2:=of_decide_eq_false g14.2;exact ⟨by omega,by omega⟩
   refine W.skip (thn_n (W.seq (W.seq (W.region (L.val (x_as (v:=.int _ _) rfl) rfl ?_)))));refine L.nil (thn_n (W.block (W.loop (fun m' E w'=>∃ (k:Nat),m'=l.length - k∧E 0=.slice pl l.length cl∧E 1=.slice pm m.length cm∧E 5=.int .i64 (k:Nat)∧(k≤l.length)∧(Bel w w')∧(StrsAt A w' (.slice pl l.length cl) l)∧(RecRow ArC 2 B w' pm rm m)) (l.length) ?_ ?_)))
   ·exact ⟨0,by omega,vi_,vi_,vi_,ao_,ao_,ao_,ao_⟩
   ·rintro _ E wL15 ⟨k,em,e0,e1,e5,hk,hB,h,hr⟩;rw [upd_self e0,upd_self e1,upd_self e5];refine W.seq (W.seq (W.region (L.val (x_mv (v:=.int _ _) rfl) rfl ?_)));refine L.val (x_mv (v:=.slice _ _ _) rfl) rfl ?_;refine L.val (x_len_slice Try.underlying23 rfl) rfl ?_;refine L.val (x_lss rfl rfl) rfl ?_;refine L.nil (thn_n (W.cond (b:=_) rfl (fun g18=>?_) (fun g18=>?_)))
    ·have h18:=of_decide_eq_true g18;have hlt:k<l.length:=by omega
     obtain ⟨bl,ol,rfl,hc⟩:=h.elem hlt;refine W.skip (thn_n (W.seq (W.block (W.seq (W.region (L.val (x_mv (v:=.slice _ _ _) rfl) rfl ?_))))));refine L.val (x_mv (v:=.int _ _) rfl) rfl ?_;refine L.val (x_ia1 (j:=k) Try.underlying23 kgrv_sz9 rfl rfl om_ om_) rfl ?_;refine L.val (x_ld (v:=S _) kgrv_oc9 rfl hc) rfl ?_;refine L.val (x_len_str Try.underlying9 rfl) rfl ?_;refine L.val (x_gtr rfl rfl) rfl ?_;refine L.nil (thn_n (W.cond (b:=_) rfl (fun g26=>?_) (fun g26=>?_)))
     ·have h26:=of_decide_eq_true g26;refine W.seq (W.region (L.val (x_as (v:=.bool _) rfl) rfl ?_));refine L.nil (thn_n (W.ret (blk_r (thn_r (thn_r (blk_r (thn_r (fin_mk (.inr rfl) ?_))))))));exact ⟨⟨_,rfl,fun e=>by cases e⟩,hB⟩
     ·have h26:=dlt_f g26;refine W.skip (blk_n (thn_n (W.region (L.val (x_mv (v:=.int _ _) rfl) rfl ?_))));refine L.val (x_add rfl rfl (wr64 om_)) rfl ?_;refine L.val (x_as (v:=.int _ _) rfl) rfl ?_;refine L.nil (thn_n ⟨rfl,?_⟩);refine ⟨_,?_,k+1,rfl,vi_,vi_,vi_,ao_,ao_,ao_,ao_⟩;omega
    ·have h18:=dlt_f g18;refine W.exit (thn_x (thn_x (blk_hit ?_)));refine thn_n (W.seq (W.seq (W.region (L.val (x_as (v:=.int _ _) rfl) rfl ?_))));refine L.nil (thn_n (W.block (W.loop (fun m' E w'=>∃ (k:Nat),m'=m.length - k∧E 1=.slice pm m.length cm∧E 6=.int .i64 (k:Nat)∧(k≤m.length)∧(Bel w w')∧(RecRow ArC 2 B w' pm rm m)) (m.length) ?_ ?_)))
     ·exact ⟨0,by omega,vi_,vi_,ao_,ao_,ao_⟩
     ·rintro _ E wL27 ⟨k,em,e1,e6,hk,hB,hr⟩;rw [upd_self e1,upd_self e6];refine W.seq (W.seq (W.region (L.val (x_mv (v:=.int _ _) rfl) rfl ?_)));refine L.val (x_mv (v:=.slice _ _ _) rfl) rfl ?_;refine L.val (x_len_slice Try.underlying22 rfl) rfl ?_;refine L.val (x_lss rfl rfl) rfl ?_;refine L.nil (thn_n (W.cond (b:=_) rfl (fun g30=>?_) (fun g30=>?_)))
      ·have h30:=of_decide_eq_true g30;have hlt:k<m.length:=by omega
       obtain ⟨bm,om,rfl,-,-⟩:=hr.elem hlt;obtain ⟨ea,-,-⟩:=hr.each k hlt;refine W.skip (thn_n (W.seq (W.block (W.seq (W.region (L.val (x_mv (v:=.slice _ _ _) rfl) rfl ?_))))));refine L.val (x_mv (v:=.int _ _) rfl) rfl ?_;refine L.val (x_ia (j:=k) Try.underlying22 kgrv_sz36 rfl rfl om_ om_) rfl ?_;refine L.val (x_fa kgrv_fo36_0 rfl) rfl ?_;refine L.val (x_ld (v:=S _) kgrv_oc9 rfl (hr.cell hlt (j:=0) (by rw [ea];rfl))) rfl ?_;refine L.val (x_len_str Try.underlying9 rfl) rfl ?_;refine L.val (x_gtr rfl rfl) rfl ?_;refine L.val (x_mv (v:=.bool _) rfl) rfl ?_;refine' L.group0 7 41 47 47 40 false rfl ?_ ?_ ?_;rotate_left 1
       ·intro g40;have h40:=dlt_f g40;refine L.gyes' (dj:=40) (b:=_) rfl rfl g40 ?_;refine L.val (x_mv (v:=.slice _ _ _) rfl) rfl ?_;refine L.gyes' (dj:=40) (b:=_) rfl rfl g40 ?_;refine L.val (x_mv (v:=.int _ _) rfl) rfl ?_;refine L.gyes' (dj:=40) (b:=_) rfl rfl g40 ?_;refine L.val (x_ia (j:=k) Try.underlying22 kgrv_sz36 rfl rfl om_ om_) rfl ?_;refine L.gyes' (dj:=40) (b:=_) rfl rfl g40 ?_;refine L.val (x_fa kgrv_fo36_1 rfl) rfl ?_;refine L.gyes' (dj:=40) (b:=_) rfl rfl g40 ?_;refine L.val (x_ld (v:=S _) kgrv_oc9 rfl (hr.cell hlt (j:=1) (by rw [ea];rfl))) rfl ?_;refine L.gyes' (dj:=40) (b:=_) rfl rfl g40 ?_;refine L.val (x_len_str Try.underlying9 rfl) rfl ?_;refine L.gyes' (dj:=40) (b:=_) rfl rfl g40 ?_;refine L.val (x_gtr rfl rfl) rfl ?_;refine L.nil (thn_n ⟨rfl,rfl,?_,rfl⟩);repeat (first | exact jeq.refl _ _ _ | refine jeq.upd rfl ?_ | refine jeq.jk rfl rfl ?_)
       ·intro g40;(iterate 7 refine L.gno (dj:=40) (b:=_) rfl rfl g40 rfl ?_);refine L.nil (thn_n ⟨rfl,rfl,?_⟩);repeat (first | exact jeq.refl _ _ _ | refine jeq.upd rfl ?_ | refine jeq.jk rfl rfl ?_)
       intro J40 j40;refine L.val (x_or rfl j40) rfl ?_;refine L.nil (thn_n (W.cond (b:=_) rfl (fun g48=>?_) (fun g48=>?_)))
       ·have h48:=g48;refine W.seq (W.region (L.val (x_as (v:=.bool _) rfl) rfl ?_));refine L.nil (thn_n (W.ret (blk_r (thn_r (thn_r (blk_r (thn_r (fin_mk (.inr rfl) ?_))))))));exact ⟨⟨_,rfl,fun e=>by cases e⟩,hB⟩
       ·have h48:=g48;refine W.skip (blk_n (thn_n (W.region (L.val (x_mv (v:=.int _ _) rfl) rfl ?_))));refine L.val (x_add rfl rfl (wr64 om_)) rfl ?_;refine L.val (x_as (v:=.int _ _) rfl) rfl ?_;refine L.nil (thn_n ⟨rfl,?_⟩);refine ⟨_,?_,k+1,rfl,vi_,vi_,ao_,ao_,ao_⟩;omega
      ·have h30:=dlt_f g30;refine W.exit (thn_x (thn_x (blk_hit ?_)));refine thn_n (W.seq (W.region (L.val (x_as (v:=.bool _) rfl) rfl ?_)));refine L.nil (thn_n (W.ret (fin_mk (.inr rfl) ?_)));exact ⟨⟨_,rfl,fun _=>hsm⟩,hB⟩
end Go.Gx
