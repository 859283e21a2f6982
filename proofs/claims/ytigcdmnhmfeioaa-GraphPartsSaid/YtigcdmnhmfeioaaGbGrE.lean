/- Where arcs lead from each name: a map. Conditions: none. -/
import Derived.Test.YtigcdmnhmfeioaaGbGrC
namespace Go.Gx
open Go.Proofs Go.Sort
theorem kgre_ag36:aggT Try.prog 36 2=true:=by kernel_rfl
theorem kgre_el9:elT Try.prog 9 1=true:=by kernel_rfl
theorem kgre_en26:Go.Proofs.Enters Try.prog 26:=Go.Proofs.enters_of Try.func26 kr_ rfl
theorem kgre_en45:Go.Proofs.Enters Try.prog 45:=Go.Proofs.enters_of Try.func45 kr_ rfl
theorem kgre_en46:Go.Proofs.Enters Try.prog 46:=Go.Proofs.enters_of Try.func46 kr_ rfl
theorem kgre_en47:Go.Proofs.Enters Try.prog 47:=Go.Proofs.enters_of Try.func47 kr_ rfl
theorem kgre_en48:Go.Proofs.Enters Try.prog 48:=Go.Proofs.enters_of Try.func48 kr_ rfl
theorem kgre_en56:Go.Proofs.Enters Try.prog 56:=Go.Proofs.enters_of Try.func56 kr_ rfl
theorem kgre_en57:Go.Proofs.Enters Try.prog 57:=Go.Proofs.enters_of Try.func57 kr_ rfl
theorem kgre_fo36_0:fieldOff Try.prog 36 0=some 0:=by kernel_rfl
theorem kgre_fo36_1:fieldOff Try.prog 36 1=some 1:=by kernel_rfl
theorem kgre_mixed:Try.prog.follows .mixedOrders=true:=by kernel_rfl
theorem kgre_oc9:oneCellT Try.prog 9=true:=by kernel_rfl
theorem kgre_sz36:(Try.prog.info? 36).map (·.size)=some 2:=by kernel_rfl
theorem kgre_sz9:(Try.prog.info? 9).map (·.size)=some 1:=by kernel_rfl
theorem kgre_zr36:(Try.prog.info? 36).bind (·.zero)=some (Value.agg [S [],S []].toArray):=by kernel_rfl
def NextMap (A:Nat→Prop) (w:World) (b:Nat) (f:Str→List Str):Prop:=
  ∃ l:List (Str × Value),MapAtK S (fun _=>True) w b l∧∀ n,StrsAt A w ((getK l n).getD (.slice none 0 0)) (f n)
theorem NextMap.carryR {A R:Nat→Prop} {w w':World} {b:Nat} {f:Str→List Str} (h:NextMap A w b f) (g:Gr R w w') (hb:¬ R b) (hR:∀ k,R k→A k):NextMap A w' b f:=by
  obtain ⟨l,h1,h2⟩:=h;exact ⟨l,h1.carryR g hb,fun n=>(h2 n).carryR g hR⟩
theorem NextMap.carry {A:Nat→Prop} {w w':World} {b:Nat} {f:Str→List Str} (h:NextMap A w b f) (g:Bel w w'):NextMap A w' b f:=h.carryR g (fun f=>f) (fun _ f=>f.elim)
theorem NextMap.mono {A A':Nat→Prop} {w:World} {b:Nat} {f:Str→List Str} (h:NextMap A w b f) (hA:∀ k,k<w.heap.size→A' k→A k):NextMap A' w b f:=by
  obtain ⟨l,h1,h2⟩:=h;exact ⟨l,h1,fun n=>(h2 n).mono hA⟩
theorem NextMap.lt {A:Nat→Prop} {w:World} {b:Nat} {f:Str→List Str} (h:NextMap A w b f):b<w.heap.size:=by
  obtain ⟨l,h1,h2⟩:=h;exact h1.lt
structure GrowM (base:Nat) (w:World) (b:Nat) (l:List (Str × Value)) (f:Str→List Str):Prop where
  map:MapAtK S (fun _=>True) w b l
  own:∀ n,Own w base 9 1 ((getK l n).getD (.slice none 0 0)) (f n).length ((f n).map S)
  apart:∀ n m j,n≠m→some j=((getK l n).getD (.slice none 0 0)).ownBlock→¬ some j=((getK l m).getD (.slice none 0 0)).ownBlock
theorem GrowM.carryR {base:Nat} {R:Nat→Prop} {w w':World} {b:Nat} {l:List (Str × Value)} {f:Str→List Str} (h:GrowM base w b l f) (g:Gr R w w') (hb:¬ R b) (hR:∀ n j,some j=((getK l n).getD (.slice none 0 0)).ownBlock→¬ R j):GrowM base w' b l f:=
  ⟨h.map.carryR g hb,fun n=>Own.carryR (h.own n) g (hR n),h.apart⟩
theorem GrowM.carry {base:Nat} {w w':World} {b:Nat} {l:List (Str × Value)} {f:Str→List Str} (h:GrowM base w b l f) (g:Bel w w'):GrowM base w' b l f:=h.carryR g (fun f=>f) (fun _ _ _ f=>f)
theorem GrowM.lt {base:Nat} {w:World} {b:Nat} {l:List (Str × Value)} {f:Str→List Str} (h:GrowM base w b l f) {n:Str} {j:Nat} (hj:some j=((getK l n).getD (.slice none 0 0)).ownBlock):base≤j∧j<w.heap.size:=Own.lt (h.own n) hj
theorem GrowM.step {base b:Nat} {w w':World} {l:List (Str × Value)} {f f':Str→List Str} {n:Str} {v0 v':Value} (h:GrowM base w b l f) (hv:(getK l n).getD (.slice none 0 0)=v0) (g:Gr (fun k=>k=b∨some k=v0.ownBlock) w w') (hbb:b<base)
    (mp:MapAtK S (fun _=>True) w' b (putK l n v')) (ho:Own w' base 9 1 v' (f' n).length ((f' n).map S)) (hf:∀ m,m≠n→f' m=f m) (hob:v'.ownBlock=v0.ownBlock∨∃ k,v'.ownBlock=some k∧w.heap.size≤k):GrowM base w' b (putK l n v') f':=by
  refine ⟨mp,fun m=>?_,fun m k j hne hj=>?_⟩
  · rw [getK_put];by_cases e:m=n
    · subst e;rw [if_pos rfl];exact ho
    · rw [if_neg e,hf m e];exact Own.carryR (h.own m) g (fun j hj hr=>by
        have:=h.lt hj;rcases hr with hr | hr
        · omega
        · rw [← hv] at hr;exact h.apart m n j e hj hr)
  · rw [getK_put] at hj ⊢;by_cases e1:m=n
    · subst e1;rw [if_pos rfl] at hj;rw [if_neg (fun e=>hne e.symm)];have hj:some j=v'.ownBlock:=hj;rcases hob with e | ⟨i,e,hi⟩
      · rw [e,← hv] at hj;exact h.apart m k j hne hj
      · intro h2;have:=(h.lt h2).2;have:=Option.some.inj (hj.trans e);omega
    · rw [if_neg e1] at hj;by_cases e2:k=n
      · subst e2;rw [if_pos rfl];show ¬ some j=v'.ownBlock;rcases hob with e | ⟨i,e,hi⟩
        · rw [e,← hv];exact h.apart m k j hne hj
        · intro h2;have:=(h.lt hj).2;have:=Option.some.inj (h2.trans e);omega
      · rw [if_neg e2];exact h.apart m k j hne hj
theorem tos_take {l:List Arc} {i:Nat} (h:i<l.length) (n:Str):tosL (l.take (i+1)) n=tosL (l.take i) n++if (l.getD i default).1=n then [(l.getD i default).2] else []:=by
  unfold tosL;rw [take_snoc (d:=default) h,List.filter_append,List.map_append];congr 1;by_cases e:(l.getD i default).1=n
  · rw [if_pos e,List.filter_cons,if_pos (by rw [e];simp)];rfl
  · rw [if_neg e,List.filter_cons,if_neg (by simpa using e)];rfl
theorem tos_len (l:List Arc) (n:Str):(tosL l n).length≤l.length:=by
  unfold tosL;rw [List.length_map];exact List.length_filter_le _ _
theorem tos_short {l:List Arc} (hx:∀ a∈l,a.1.length≤9223372036854775807∧a.2.length≤9223372036854775807) (n:Str):∀ x∈tosL l n,x.length≤9223372036854775807:=fun x h=>(hx _ (mem_tos.1 h)).2
theorem next_short {l:List Arc} (hx:∀ a∈l,a.1.length≤9223372036854775807∧a.2.length≤9223372036854775807) (n:Str):∀ x∈nextS l n,x.length≤9223372036854775807:=fun x h=>(hx _ (mem_next.1 h)).2
set_option maxHeartbeats 1000000 in
theorem outs36 (A0:Nat→Prop) (v:Value) (l:List Arc) (w:World) (h0:ArcsAt A0 w v l) (hll:l.length≤400000):
    Ret Try.prog 24 #[v] w fun r w'=>(r=.map (some w.heap.size)∧NextMap (fun k=>k≤w.heap.size) w' w.heap.size (nextS l))∧Bel w w':=by
  obtain ⟨B,hb,hV⟩:∃ A:Nat→Prop,ArcsAt A w v l∧(∀ k,w.heap.size≤k→A k):=⟨_,RecsAt.up h0,fun _=>.inr⟩;obtain ⟨p,cap,row,rfl,a1,a2,a3,hr⟩:=hb;have hxl:=arcs_len hr;refine ret_of_W Try.func24 rfl (Nat.le_of_ble_eq_true rfl) (res1 rfl) ?_;have hB:=Gr.refl (fun _=>False) w;refine W.seq (W.region (L.val (x_as (v:=.map _) rfl) rfl ?_));refine L.nil (thn_n (W.seq (W.region (L.mkmapK (κ := Str) (K:=S) (V:=fun _=>True) Try.underlying47 rfl (fun w9 mp hw hz9=>?_)))));have hB:=hB.carry hw;have hr:=hr.carry hw;have hgm:GrowM (w.heap.size+1) w9 w.heap.size [] (fun n=>tosL (l.take 0) n):=⟨mp,fun n=>own_nil,fun n m j _ hj=>by cases hj⟩;refine L.val (x_as (v:=.map _) rfl) rfl ?_;refine L.nil (thn_n (W.seq (W.seq (W.region (L.val (x_mv (v:=.slice _ _ _) rfl) rfl ?_)))));refine L.val (x_len_slice Try.underlying22 rfl) rfl ?_;refine L.val (x_mv (v:=.int _ _) rfl) rfl ?_;refine L.nil (thn_n (W.block (W.loop (fun m' E w'=>∃ (i:Nat) (ml:List (Str × Value)),m'=l.length - i∧E 3=.map (some w.heap.size)∧E 10=.slice p l.length cap∧E 11=.int .i64 (l.length:Nat)∧E 12=.int .i64 (i:Nat)∧(i≤l.length)∧(Bel w w')∧(RecRow ArC 2 B w' p row l)∧(GrowM (w.heap.size+1) w' w.heap.size ml (fun n=>tosL (l.take i) n))∧(ml.length≤i)) (l.length) ?_ ?_)))
  ·exact ⟨0,[],by omega,vi_,vi_,vi_,vi_,ao_,ao_,ao_,ao_,(by exact Nat.le_refl 0)⟩
  ·rintro _ E wL13 ⟨i,ml,em,e3,e10,e11,e12,hi,hB,hr,hgm,hml⟩;rw [upd_self e3,upd_self e10,upd_self e11,upd_self e12];refine W.seq (W.region ?_);have hsL:=hB.size;have hbL:=hgm.map.lt;have hlo:=fun n j hj=>hgm.lt (n:=n) (j:=j) hj
   refine L.val (x_lss rfl rfl) rfl ?_;refine L.nil (thn_n (W.seq (W.cond (b:=_) rfl (fun g13=>?_) (fun g13=>?_))))
   ·have h13:=of_decide_eq_true g13;have hlt:i<l.length:=by omega
    obtain ⟨pb,po,rfl,-,-⟩:=hr.elem hlt;obtain ⟨ea,-,-⟩:=hr.each i hlt;obtain ⟨a,hae⟩:∃ a,a=l.getD i default:=⟨_,rfl⟩;have htt:=tos_take hlt;rw [← hae] at ea htt;have htl:=tos_len (l.take i) a.1;rw [List.length_take] at htl;refine W.skip (thn_n (W.seq (W.block (W.seq (W.region (L.val (x_ia (j:=i) Try.underlying22 kgre_sz36 rfl rfl om_ om_) rfl ?_))))));refine L.val (x_ldn (vs:=arV a) kgre_ag36 rfl rfl (by have:=hr.elemAt hlt;rw [ea] at this;exact this)) rfl ?_;refine L.alloc (cs:=[S [],S []]) kgre_zr36 rfl rfl (fun w5 bx5 hw hz5=>?_);have hB:=hB.carry hw;have hr:=hr.carry hw;have hgm:=hgm.carry hw;have hz5b:=hz5;refine L.setRow kgre_ag36 rfl rfl bx5 rfl rfl (by simp [Value.oneCell',S,arV]) (fun wl11 bx5 hw hzl11=>?_);have hsz:=hB.size;have hB:=hB.set hw om_;have hr:=hr.carryR hw (fun k e=>hV k (by have e:k=_:=e;omega));have hgm:=hgm.carryR hw (fun e=>by have e:_=_:=e;omega) (fun n j hj e=>by have e:j=_:=e;have:=hlo n j hj;omega);have bx5:Box wl11 _ 36 [S a.1,S a.2]:=bx5;obtain ⟨v0,hv0⟩:∃ v,(getK ml a.1).getD (.slice none 0 0)=v:=⟨_,rfl⟩;have ho0:=hgm.own a.1;rw [hv0] at ho0;obtain ⟨a0,c0,rfl,-⟩:=own_shape ho0;have hlo0:∀ j,some j=(Value.slice a0 (tosL (l.take i) a.1).length c0).ownBlock→w.heap.size+1≤j∧j<wL13.heap.size:=fun j hj=>by rw [← hv0] at hj;exact hlo a.1 j hj
    have hmp:=hgm.map;have hsl11:=hB.size;have h5l:=bx5.lt;refine L.nil (thn_n (W.drawD (fun k=>k=w.heap.size∨some k=(Value.slice a0 (tosL (l.take i) a.1).length c0).ownBlock) (fun k=>some k=(Value.slice a0 (tosL (l.take i) a.1).length c0).ownBlock) 11 kgre_mixed (fun wD16 hw=>?_)));have hB:=hB.carry hw;have hr:=hr.carry hw;have bx5:=bx5.carry hw;have hgm:=hgm.carry hw;have hmp:=hmp.carry hw;have ho0:=ho0.carry hw;have hB0:=Gr.refl (fun k=>some k=(Value.slice a0 (tosL (l.take i) a.1).length c0).ownBlock) wD16;have hR0:=Gr.refl (fun k=>k=w.heap.size∨some k=(Value.slice a0 (tosL (l.take i) a.1).length c0).ownBlock) wD16;have hs16:=hw.size;refine LAD.take0 (i:=0) rfl kr_ kr_ kr_ kr_ (fun w hw=>x_mv (v:=.map _) rfl) rfl ?_;refine LAD.take0 (i:=1) rfl kr_ kr_ kr_ kr_ (fun w hw=>x_fa kgre_fo36_0 rfl) rfl ?_;refine LAD.take0 (i:=2) rfl kr_ kr_ kr_ kr_ (fun w hw=>x_ld (v:=S _) kgre_oc9 rfl (hw.keepR ((by rintro (e | e) <;> first | (have e:(_:Nat)=_:=e;dsimp only at e;omega) | (have:=hlo0 _ e;dsimp only at this;omega))) (bx5.cell0 rfl))) rfl ?_;refine LAD.take0 (i:=3) rfl kr_ kr_ kr_ kr_ (fun w hw=>x_mv (v:=.map _) rfl) rfl ?_;refine LAD.take0 (i:=4) rfl kr_ kr_ kr_ kr_ (fun w hw=>x_fa kgre_fo36_0 rfl) rfl ?_;refine LAD.take0 (i:=5) rfl kr_ kr_ kr_ kr_ (fun w hw=>x_ld (v:=S _) kgre_oc9 rfl (hw.keepR ((by rintro (e | e) <;> first | (have e:(_:Nat)=_:=e;dsimp only at e;omega) | (have:=hlo0 _ e;dsimp only at this;omega))) (bx5.cell0 rfl))) rfl ?_;refine LAD.take0 (i:=7) rfl kr_ kr_ kr_ kr_ (fun w hw=>x_fa kgre_fo36_1 rfl) rfl ?_;refine LAD.take0 (i:=8) rfl kr_ kr_ kr_ kr_ (fun w hw=>x_ld (v:=S _) kgre_oc9 rfl (hw.keepR ((by rintro (e | e) <;> first | (have e:(_:Nat)=_:=e;dsimp only at e;omega) | (have:=hlo0 _ e;dsimp only at this;omega))) (bx5.cell0 rfl))) rfl ?_;refine LAD.step (rs:=[6,9]) hR0 (fun _=>hB0) kr_ (by simp) ⟨⟨_,rfl,?_⟩,⟨_,rfl,?_⟩,trivial⟩
    ·refine L.val (x_look0 (z:=.slice none 0 0) Try.underlying47 (klawS Try.underlying9) kr_ rfl rfl trivial hmp hv0) rfl ?_;refine L.nil (thn_n (LAD.step (rs:=[9]) hR0 (fun _=>hB0) kr_ (by simp) ⟨⟨_,rfl,?_⟩,trivial⟩));refine L.bs (sz:=1) (cells:=[S a.2]) Try.underlying23 kgre_el9 rfl rfl rfl rfl (fun w25 bx25 hw hz25=>?_);have hB0:=hB0.carry hw;have hR0:=hR0.carry hw;have hmp:=hmp.carry hw;have ho0:=ho0.carry hw;refine L.nil (thn_n (LAD.step (rs:=[10]) hR0 (fun _=>hB0) kr_ (by simp) ⟨⟨_,rfl,?_⟩,trivial⟩));have hs26:=hB0.size;refine L.appendN (m:=1) Try.underlying23 kgre_el9 rfl rfl rfl ho0 rfl (holdsN_box bx25) (by simp [Value.oneCell',S]) om_ om_ (fun v26 w26 hO26 hg hob26=>?_);have hB0:=hB0.intoR hg (fun k e=>e);have hR0:=hR0.intoR hg (fun k e=>.inr e);have hmp:=MapAtK.carryR hmp hg (fun e=>by have:=hlo0 _ e;omega);obtain ⟨a26,c26,e26,-⟩:=own_shape hO26;subst e26;refine L.nil (thn_n (LAD.step (rs:=[11]) hR0 (fun _=>hB0) kr_ (by simp) ⟨⟨_,rfl,?_⟩,trivial⟩));refine L.mapsetK (v:=.slice _ _ _) Try.underlying47 (klawS Try.underlying9) rfl rfl trivial rfl hmp (fun wl23 hmp hw hzl23=>?_);have hR0:=hR0.into hw (.inl rfl);have hO26:=Own.carryR hO26 hw (fun j hj e=>by have e:j=_:=e;have:=(Own.lt hO26 hj).1;omega);refine L.nil (thn_n (LAD.done kr_ kr_ hR0 ?_));have hB:=hB.step hR0 (fun i hi e=>by rcases e with e | e <;> first | omega | (have:=hlo0 _ e;omega));have hr:=hr.carryR hR0 (fun k e=>hV k (by rcases e with e | e <;> first | omega | (have:=hlo0 _ e;omega)));have bx5:=bx5.carryR hR0 (fun e=>by rcases e with e | e <;> first | omega | (have:=hlo0 _ e;omega));have hgm:=GrowM.step (f':=fun n=>tosL (l.take (i+1)) n) hgm hv0 hR0 om_ hmp (by rw [htt,if_pos rfl,List.length_append,List.map_append];exact hO26) (fun m hm=>by rw [htt,if_neg (fun e=>hm e.symm),List.append_nil]) (hob26.imp id (fun e=>⟨_,e,hs26⟩));have hgm2:=hgm;have hml2:(putK ml a.1 (.slice a26 ((tosL (l.take i) a.1).length+1) c26)).length≤i+1:=by
       have:=congrArg List.length (putK_keys (l:=ml) (x:=a.1) (v:=.slice a26 ((tosL (l.take i) a.1).length+1) c26));rw [List.length_map] at this;rw [this];split
       · rw [List.length_map];omega
       · rw [List.length_append,List.length_map,List.length_singleton];omega
     refine blk_n (thn_n (W.region (L.val (x_add rfl rfl (wr64 om_)) rfl ?_)));refine L.val (x_mv (v:=.int _ _) rfl) rfl ?_;refine L.nil (thn_n ⟨rfl,?_⟩);refine ⟨_,?_,i+1,_,rfl,vi_,vi_,vi_,vi_,ao_,ao_,ao_,(by exact hgm2),(by exact hml2)⟩;omega
    ·refine L.bs (sz:=1) (cells:=[S a.2]) Try.underlying23 kgre_el9 rfl rfl rfl rfl (fun w25 bx25 hw hz25=>?_);have hB0:=hB0.carry hw;have hR0:=hR0.carry hw;have hmp:=hmp.carry hw;have ho0:=ho0.carry hw;refine L.nil (thn_n (LAD.step (rs:=[6]) hR0 (fun _=>hB0) kr_ (by simp) ⟨⟨_,rfl,?_⟩,trivial⟩));refine L.val (x_look0 (z:=.slice none 0 0) Try.underlying47 (klawS Try.underlying9) kr_ rfl rfl trivial hmp hv0) rfl ?_;refine L.nil (thn_n (LAD.step (rs:=[10]) hR0 (fun _=>hB0) kr_ (by simp) ⟨⟨_,rfl,?_⟩,trivial⟩));have hs26:=hB0.size;refine L.appendN (m:=1) Try.underlying23 kgre_el9 rfl rfl rfl ho0 rfl (holdsN_box bx25) (by simp [Value.oneCell',S]) om_ om_ (fun v26 w26 hO26 hg hob26=>?_);have hB0:=hB0.intoR hg (fun k e=>e);have hR0:=hR0.intoR hg (fun k e=>.inr e);have hmp:=MapAtK.carryR hmp hg (fun e=>by have:=hlo0 _ e;omega);obtain ⟨a26,c26,e26,-⟩:=own_shape hO26;subst e26;refine L.nil (thn_n (LAD.step (rs:=[11]) hR0 (fun _=>hB0) kr_ (by simp) ⟨⟨_,rfl,?_⟩,trivial⟩));refine L.mapsetK (v:=.slice _ _ _) Try.underlying47 (klawS Try.underlying9) rfl rfl trivial rfl hmp (fun wl23 hmp hw hzl23=>?_);have hR0:=hR0.into hw (.inl rfl);have hO26:=Own.carryR hO26 hw (fun j hj e=>by have e:j=_:=e;have:=(Own.lt hO26 hj).1;omega);refine L.nil (thn_n (LAD.done kr_ kr_ hR0 ?_));have hB:=hB.step hR0 (fun i hi e=>by rcases e with e | e <;> first | omega | (have:=hlo0 _ e;omega));have hr:=hr.carryR hR0 (fun k e=>hV k (by rcases e with e | e <;> first | omega | (have:=hlo0 _ e;omega)));have bx5:=bx5.carryR hR0 (fun e=>by rcases e with e | e <;> first | omega | (have:=hlo0 _ e;omega));have hgm:=GrowM.step (f':=fun n=>tosL (l.take (i+1)) n) hgm hv0 hR0 om_ hmp (by rw [htt,if_pos rfl,List.length_append,List.map_append];exact hO26) (fun m hm=>by rw [htt,if_neg (fun e=>hm e.symm),List.append_nil]) (hob26.imp id (fun e=>⟨_,e,hs26⟩));have hgm2:=hgm;have hml2:(putK ml a.1 (.slice a26 ((tosL (l.take i) a.1).length+1) c26)).length≤i+1:=by
       have:=congrArg List.length (putK_keys (l:=ml) (x:=a.1) (v:=.slice a26 ((tosL (l.take i) a.1).length+1) c26));rw [List.length_map] at this;rw [this];split
       · rw [List.length_map];omega
       · rw [List.length_append,List.length_map,List.length_singleton];omega
     refine blk_n (thn_n (W.region (L.val (x_add rfl rfl (wr64 om_)) rfl ?_)));refine L.val (x_mv (v:=.int _ _) rfl) rfl ?_;refine L.nil (thn_n ⟨rfl,?_⟩);refine ⟨_,?_,i+1,_,rfl,vi_,vi_,vi_,vi_,ao_,ao_,ao_,(by exact hgm2),(by exact hml2)⟩;omega
   ·have h13:=dlt_f g13;have hii:i=l.length:=by omega
    have hml1:ml.length≤400000:=by omega
    rw [hii,List.take_length] at hgm;have hmp:=hgm.map;have hnd:=hmp.nodup;have hnone:∀ n,n∉ml.map (·.1)→tosL l n=[]:=fun n hn=>by
      have h1:getK ml n=none:=by unfold getK;rw [if_neg (fun e=>hn (idxK_mem.1 e))]
      have h2:=hgm.own n;rw [h1] at h2;obtain ⟨a,c,e,-⟩:=own_shape h2;cases htl:tosL l n with
      | nil=>rfl
      | cons x r=>rw [htl] at e;cases e
    have hval:∀ n,StrsAt (fun k=>k≤w.heap.size) wL13 ((getK ml n).getD (.slice none 0 0)) (if n∈([]:List Str) then nextS l n else tosL l n):=fun n=>by
      rw [if_neg (by simp)];exact strs_done (hgm.own n) (by have:=tos_len l n;omega) (tos_short hxl n) (fun j hj e=>by have e:j≤_:=e;omega)
    refine W.exit (thn_x (thn_x (blk_hit ?_)));refine thn_n (W.seq (W.seq (W.region (L.val (x_mv (v:=.map _) rfl) rfl ?_))));refine L.ret (x_call kgre_en46 rfl) rfl (keys_okG _ _) ?_;rintro _ w29 ⟨rfl,bx29,hw⟩;have hB:=hB.carry hw;have hmp:=hmp.carry hw;have hs29:=hB.size;have hval:=fun n=>(hval n).carry hw
    refine L.ret (x_call kgre_en45 rfl) rfl (collect_ok _ _ (ml.map (·.1)) _ kgre_en56 (by rw [List.length_map];omega) (fun _ h=>h) (by rw [List.length_map];exact keys_seqG _ _ _ ml _ bx29.lt (bx29.cell (i:=0) rfl) hmp.str)) ?_;rintro v30 w30 ⟨⟨xs,hpx,hO,-⟩,hw⟩;have hB:=hB.carry hw;have hmp:=hmp.carry hw;have hval:=fun n=>(hval n).carry hw
    obtain ⟨ax,cx,rfl,-⟩:=own_shape hO;have hs30:=hw.size;have hxk:xs.length≤400000:=by have:=hpx.length_eq;rw [List.length_map] at this;omega
    have hxn:xs.Nodup:=hpx.nodup_iff.2 hnd;have hs30b:=hB.size;refine L.val (x_len_slice Try.underlying23 rfl) rfl ?_;refine L.val (x_mv (v:=.int _ _) rfl) rfl ?_;refine L.nil (thn_n (W.block (W.loop (fun m' E w'=>∃ (k:Nat) (mm:List (Str × Value)),m'=xs.length - k∧E 3=.map (some w.heap.size)∧E 30=.slice ax xs.length cx∧E 31=.int .i64 (xs.length:Nat)∧E 32=.int .i64 (k:Nat)∧(k≤xs.length)∧(Bel w w')∧(Own w' (w29.heap.size+1) 9 1 (.slice ax xs.length cx) xs.length (xs.map S))∧(MapAtK S (fun _=>True) w' w.heap.size mm)∧(∀ n,StrsAt (fun k=>k≤w.heap.size) w' ((getK mm n).getD (.slice none 0 0)) (if n∈xs.take k then nextS l n else tosL l n))) (xs.length) ?_ ?_)))
    ·exact ⟨0,ml,by omega,vi_,vi_,vi_,vi_,ao_,ao_,ao_,ao_,(by simpa using hval)⟩
    ·rintro _ E wL33 ⟨k,mm,em,e3,e30,e31,e32,hk,hB,hO,hmp,hval⟩;rw [upd_self e3,upd_self e30,upd_self e31,upd_self e32];refine W.seq (W.region ?_);have hsL:=hB.size;have hbL:=hmp.lt;refine L.val (x_lss rfl rfl) rfl ?_;refine L.nil (thn_n (W.seq (W.cond (b:=_) rfl (fun g33=>?_) (fun g33=>?_))))
     ·have h33:=of_decide_eq_true g33;have hlt:k<xs.length:=by omega
      obtain ⟨bx,rfl⟩:=own_pos hO om_;obtain ⟨n,hn⟩:∃ n,n=xs.getD k []:=⟨_,rfl⟩;have hnot:n∉xs.take k:=fun h=>by
        obtain ⟨j,hj,e⟩:=List.getElem_of_mem h;rw [List.length_take] at hj;rw [List.getElem_take] at e;have e2:xs[j]'om_=xs[k]'hlt:=by rw [e,hn,List.getD_eq_getElem?_getD,List.getElem?_eq_getElem hlt];rfl
        have:=(List.getElem_inj hxn).1 e2;omega
      have hvn:=hval n;rw [if_neg hnot] at hvn;obtain ⟨pn,cn,ev,-⟩:=id hvn;rw [ev] at hvn;have hvn:=hvn.up;have htl:=tos_len l n;have hlo:=fun j hj=>Own.lt hO (j:=j) hj
      refine W.skip (thn_n (W.seq (W.block (W.seq (W.region (L.val (x_ia1 (j:=k) Try.underlying23 kgre_sz9 rfl rfl om_ om_) rfl ?_))))));refine L.val (x_ld (v:=S _) kgre_oc9 rfl (own_cell1 hO hlt)) rfl ?_;rw [← hn];refine L.val (x_as (v:=S _) rfl) rfl ?_;refine L.nil (thn_n (W.seq (W.region (L.val (x_mv (v:=.map _) rfl) rfl ?_))));refine L.val (x_mv (v:=S _) rfl) rfl ?_;refine L.val (x_look0 (z:=.slice none 0 0) Try.underlying47 (klawS Try.underlying9) kr_ rfl rfl trivial hmp ev) rfl ?_;refine L.ret (x_call kgre_en48 rfl) rfl (values_ok _ _ _ _) ?_;rintro _ w39 ⟨rfl,bx39,hw⟩;have hB:=hB.carry hw;have hO:=hO.carry hw;have hmp:=hmp.carry hw;have hvn:=hvn.carry hw;have hs39:=hw.size;have hval:=fun n=>(hval n).up.carry hw
      refine L.ret (x_call kgre_en26 rfl) rfl (sorted_ok _ _ (tosL l n) _ kgre_en57 om_ (fun _ h=>List.Perm.of_eq h) (vals_seq (fun k=>k≤w.heap.size∨wL33.heap.size≤k) _ _ _ (tosL l n) _ (fun k hk=>.inr om_) bx39.lt (bx39.cell (i:=0) rfl) hvn (fun k hk=>.inr om_))) ?_;rintro v40 w40 ⟨hN,hw⟩;have hB:=hB.carry hw;have hO:=hO.carry hw;have hmp:=hmp.carry hw;have hvn:=hvn.carry hw;have hval:=fun n=>(hval n).carry hw
      have hs40:=hw.size;refine L.ret (x_call kgre_en47 rfl) rfl (compact_new36 _ _ _ (tosL l n) om_ hN) ?_;rintro v41 w41 ⟨hL,hg⟩;have hB:=hB.step hg (fun i hi e=>by omega);have hO:=Own.carryR hO hg (fun j hj e=>by have:=hlo j hj;have e:_≤j:=e;omega);have hmp:=MapAtK.carryR hmp hg (fun e=>by have e:_≤_:=e;omega);have hval:∀ n,StrsAt (fun k=>k≤w.heap.size) w41 ((getK mm n).getD (.slice none 0 0)) (if n∈xs.take k then nextS l n else tosL l n):=fun n=>
        ((hval n).carryR hg (fun k e=>.inr (by have e:_≤k:=e;omega))).mono (fun k _ h=>.inl h)
      have hL2:StrsAt (fun k=>k≤w.heap.size) w41 v41 (nextS l n):=hL.strs (next_short hxl n) (by have:=next_len l n;show (nextS l n).length≤_;omega) _ (fun j hj e=>by have e:j≤_:=e;omega);obtain ⟨p41,c41,rfl,-⟩:=hL.shape;refine L.val (x_as (v:=.slice _ _ _) rfl) rfl ?_;refine L.nil (thn_n (W.region (L.val (x_mv (v:=.map _) rfl) rfl ?_)));refine L.val (x_mv (v:=S _) rfl) rfl ?_;refine L.val (x_mv (v:=.slice _ _ _) rfl) rfl ?_;refine L.mapsetK (v:=.slice _ _ _) Try.underlying47 (klawS Try.underlying9) rfl rfl trivial rfl hmp (fun wl45 hmp hw hzl45=>?_);have hB:=hB.set hw (Nat.le_refl _);have hO:=Own.carryR hO hw (fun j hj e=>by have:=hlo j hj;have e:j=_:=e;omega);have hval2:∀ m,StrsAt (fun k=>k≤w.heap.size) wl45 ((getK (putK mm n (.slice p41 (onceL (tosL l n)).length c41)) m).getD (.slice none 0 0)) (if m∈xs.take (k+1) then nextS l m else tosL l m):=fun m=>by
        rw [getK_put,take_snoc (d:=[]) hlt,← hn];by_cases e:m=n
        · subst e;rw [if_pos rfl,if_pos (by simp)];exact hL2.carryR hw (fun k e=>by have e:k=_:=e;show k≤_;omega)
        · rw [if_neg e];have h1:=(hval m).carryR hw (fun k e=>by have e:k=_:=e;show k≤_;omega);have h2:(m∈xs.take k++[n])↔m∈xs.take k:=by simp [e]
          by_cases h3:m∈xs.take k
          · rw [if_pos h3] at h1;rw [if_pos (h2.2 h3)];exact h1
          · rw [if_neg h3] at h1;rw [if_neg (fun h=>h3 (h2.1 h))];exact h1
      refine L.nil (blk_n (thn_n (W.region (L.val (x_add rfl rfl (wr64 om_)) rfl ?_))));refine L.val (x_mv (v:=.int _ _) rfl) rfl ?_;refine L.nil (thn_n ⟨rfl,?_⟩);refine ⟨_,?_,k+1,_,rfl,vi_,vi_,vi_,vi_,ao_,ao_,ao_,ao_,(by exact hval2)⟩;omega
     ·have h33:=dlt_f g33;have hkk:k=xs.length:=by omega
      rw [hkk,List.take_length] at hval;refine W.exit (thn_x (thn_x (blk_hit ?_)));refine thn_n (W.seq (W.region (L.val (x_mv (v:=.map _) rfl) rfl ?_)));refine L.val (x_as (v:=.map _) rfl) rfl ?_;refine L.nil (thn_n (W.ret (fin_mk (.inr rfl) ?_)));refine ⟨⟨rfl,mm,hmp,fun n=>?_⟩,hB⟩;have h:=hval n;by_cases e:n∈xs
      · rw [if_pos e] at h;exact h
      · rw [if_neg e] at h;have h2:=hnone n (fun e2=>e (hpx.mem_iff.2 e2));have h3:nextS l n=[]:=by unfold nextS;rw [h2];rfl
        rw [h3];rw [h2] at h;exact h
end Go.Gx
namespace Go.Gx
open Go.Proofs Go.Sort
theorem kgrf_el9:elT Try.prog 9 1=true:=by kernel_rfl
theorem kgrf_en24:Go.Proofs.Enters Try.prog 24:=Go.Proofs.enters_of Try.func24 kr_ rfl
theorem kgrf_en25:Go.Proofs.Enters Try.prog 25:=Go.Proofs.enters_of Try.func25 kr_ rfl
theorem kgrf_en26:Go.Proofs.Enters Try.prog 26:=Go.Proofs.enters_of Try.func26 kr_ rfl
theorem kgrf_en27:Go.Proofs.Enters Try.prog 27:=Go.Proofs.enters_of Try.func27 kr_ rfl
theorem kgrf_en50:Go.Proofs.Enters Try.prog 50:=Go.Proofs.enters_of Try.func50 kr_ rfl
theorem kgrf_oc9:oneCellT Try.prog 9=true:=by kernel_rfl
theorem kgrf_sz9:(Try.prog.info? 9).map (·.size)=some 1:=by kernel_rfl
theorem own_cut {w:World} {base:Nat} {e:TypeId} {sz:Nat} {a:Option Addr} {c k j:Nat} {xs:List Value} (h:Own w base e sz (.slice a k c) k xs) (hj:j≤k):Own w base e sz (.slice a j c) j (xs.take (j * sz)):=by
  have hjs:j * sz≤k * sz:=Nat.mul_le_mul_right _ hj;obtain ⟨h0,hh⟩:=h;refine ⟨by rw [List.length_take];omega,?_⟩;rcases hh with ⟨e1,e2⟩ | ⟨b,cap,cur,e1,hb,hg,hk,hc,hcs,ht⟩
  · cases e1;have:j=0:=by omega
    subst this;exact .inl ⟨rfl,by simp⟩
  · cases e1;exact .inr ⟨b,_,cur,rfl,hb,hg,by omega,hc,hcs,by rw [← ht,List.take_take,Nat.min_eq_left hjs]⟩
theorem strs_all {A:Nat→Prop} {w:World} {p:Option Addr} {cap:Nat} {l:List Str} (h:StrsAt A w (.slice p l.length cap) l):HoldsN w (.slice p l.length cap) l.length (l.map S):=by
  have:=strs_take h (Nat.le_refl _)
  rwa [List.take_length] at this
theorem clone36 (A:Nat→Prop) (v:Value) (l:List Str) (w:World) (h:StrsAt A w v l) (hl:l.length≤400000):
    Ret Try.prog 25 #[v] w fun r w'=>Own w' w.heap.size 9 1 r l.length (l.map S)∧Bel w w':=by
  obtain ⟨p,cq,rfl,h1,h2,h3,h4,h5⟩:=h;rcases l with _ | ⟨x,r⟩
  · rcases p with _ | a
    · exact Calls.mono (Try.slices_Clone_string_nil 0 cq w) fun _ _ ⟨he,hw⟩=>⟨_,he,own_nil,hw ▸ Gr.refl _ _⟩
    · exact Calls.mono (Try.slices_Clone_string_zero a cq w) fun _ _ ⟨v',he,ho,_,hb⟩=>⟨_,he,ho,bel_of hb⟩
  · obtain ⟨b,o,rfl,-,hc⟩:=h5 (by simp);have hk:=Try.slices_Clone_string b o (x :: r).length cq ((x :: r).map fun s=>(⟨s.toArray⟩:ByteArray)) w (by simp) om_ (fun j hj=>by
      have hj:j<(x :: r).length:=by simpa using hj
      have e:(((x :: r).map fun s=>(⟨s.toArray⟩:ByteArray)).getD j ByteArray.empty)=⟨((x :: r).getD j []).toArray⟩:=by
        rw [List.getD_eq_getElem?_getD,List.getElem?_map,List.getElem?_eq_getElem hj,List.getD_eq_getElem?_getD,List.getElem?_eq_getElem hj];rfl
      rw [hc j hj,e];rfl)
    refine Calls.mono hk fun _ _ ⟨v',he,ho,_,hb⟩=>⟨_,he,?_,bel_of hb⟩
    have e:(((x :: r).map fun s=>(⟨s.toArray⟩:ByteArray)).take (x :: r).length).map Value.string=(x :: r).map S:=by
      rw [List.take_of_length_le (by simp),List.map_map];rfl
    rw [e] at ho;exact ho
theorem encI_keys (m:List (Str × Int)):(encI m).map (·.1)=m.map (·.1):=by unfold encI;rw [List.map_map];rfl
def unL (l:List Arc) (K:List Str):List Arc:=l.filter fun a=>!K.contains a.1
theorem un_le (l:List Arc) (K:List Str):(unL l K).length≤l.length:=List.length_filter_le _ _
theorem un_same {l:List Arc} {K K':List Str} (h:∀ x,x∈K'↔x∈K):unL l K'=unL l K:=by
  unfold unL;congr 1;funext a;have:K'.contains a.1=K.contains a.1:=by rw [Bool.eq_iff_iff,List.contains_iff_mem,List.contains_iff_mem];exact h _
  rw [this]
theorem un_put {l:List Arc} {K K':List Str} {n:Str} (h:∀ x,x∈K'↔x=n∨x∈K) (hn:n∉K):(unL l K).length=(unL l K').length+(tosL l n).length:=by
  unfold unL tosL;induction l with
  | nil=>rfl
  | cons a l ih=>
    rw [List.length_map] at ih ⊢;have hc:K'.contains a.1=(a.1 == n || K.contains a.1):=by rw [Bool.eq_iff_iff,Bool.or_eq_true,List.contains_iff_mem,List.contains_iff_mem,beq_iff_eq];exact h _
    by_cases e:a.1=n
    · have h1:K.contains a.1=false:=by rw [e];simpa using hn
      have h2:(a.1 == n)=true:=by rw [e];simp
      rw [List.filter_cons,List.filter_cons,List.filter_cons,hc,h1,h2];simp only [Bool.not_false,if_true,Bool.true_or,Bool.not_true,Bool.false_eq_true,if_false,List.length_cons];omega
    · have h2:(a.1 == n)=false:=by simpa using e
      rw [List.filter_cons,List.filter_cons,List.filter_cons,hc,h2,Bool.false_or];simp only [Bool.false_eq_true,if_false];split
      · rw [List.length_cons,List.length_cons];omega
      · exact ih
theorem strict_sub_eq {l m:List Str} (hl:Strict l) (hm:Strict m) (h:∀ x∈l,x∈m) (hlen:m.length=l.length):l=m:=strict_eq hl hm fun x=>by
  refine ⟨h x,fun hx=>?_⟩;refine Classical.byContradiction fun hn=>?_
  have h1:=strict_len_le hl.nodup (m:=m.erase x) fun y hy=>(List.mem_erase_of_ne (fun e=>by rw [e] at hy;exact hn hy)).2 (h y hy)
  rw [List.length_erase_of_mem hx] at h1;have:=List.length_pos_of_mem hx;omega
theorem sortedNew_left {base:Nat} {w:World} {v:Value} {ss:List Str} (h:SortedNew base w v ss) (hn:ss.Nodup):LeftAt base w v (onceL ss):=by
  rcases h with ⟨rfl,rfl⟩ | ⟨b,cap,tl,d,h1,h2,h3,rfl,h5,h6,h7,h8,h9⟩
  · exact .inl ⟨rfl,none,0,rfl,by omega,fun a e=>by cases e⟩
  · have hperm:d.toList.Perm ss:=by
      have h3:=h7.2.2;have e1:(d.extract 0 ss.length).toList=d.toList:=by simp [← h6]
      have e2:(ss.toArray.extract 0 ss.length).toList=ss:=by simp
      rw [e1,e2] at h3;exact h3
    have hst:Strict d.toList:=by
      rw [Strict,List.pairwise_iff_getElem];intro i j hi hj hij;have hi':i<d.size:=by simpa using hi
      have hj':j<d.size:=by simpa using hj
      have h3:=h8 i j (Nat.zero_le _) hij om_;rw [getElem!_pos d j hj',getElem!_pos d i hi'] at h3;refine lt_tot h3 (fun e=>?_);have h4:=List.pairwise_iff_getElem.1 (hperm.nodup_iff.2 hn) i j hi hj hij;exact h4 (by simpa using e.symm)
    have e:=once_eq hst fun x=>hperm.mem_iff
    have hl:(onceL ss).length=ss.length:=by rw [← e];exact hperm.length_eq
    refine .inr ⟨b,cap,tl,h1,by rw [hl],by omega,by omega,h9,?_⟩;rw [← e];simpa using h5.2
theorem reach_short {l:List Arc} {f:List Str} (hx:∀ a∈l,a.1.length≤9223372036854775807∧a.2.length≤9223372036854775807) (hf:∀ x∈f,x.length≤9223372036854775807):∀ x∈reachS l f,x.length≤9223372036854775807:=fun x h=>by
  rcases List.mem_append.1 (rch_uni (mem_reach.1 h)) with h | h
  · exact hf x h
  · obtain ⟨a,ha,rfl⟩:=List.mem_map.1 h;exact (hx a ha).2
set_option maxHeartbeats 1000000 in
theorem reachP (A0 A1:Nat→Prop) (v u:Value) (l:List Arc) (f:List Str) (w:World) (h0:ArcsAt A0 w v l) (h1:StrsAt A1 w u f) (hll:f.length+l.length≤400000):
    Ret Try.prog 12 #[v,u] w fun r w'=>StrsAt (fun k=>k<w.heap.size) w' r (reachS l f)∧Bel w w':=by
  have hxl:∀ a∈l,a.1.length≤9223372036854775807∧a.2.length≤9223372036854775807:=by obtain ⟨p,cap,row,rfl,-,-,-,hr⟩:=h0;exact arcs_len hr
  have hxf:=h1.short;obtain ⟨p,cap,row,rfl,-⟩:=id h0;obtain ⟨q,cq,rfl,-⟩:=id h1;refine ret_of_W Try.func12 rfl (Nat.le_of_ble_eq_true rfl) (res1 rfl) ?_;have hB:=Gr.refl (fun _=>False) w;refine W.seq (W.region (L.val (x_as (v:=.slice _ _ _) rfl) rfl ?_));refine L.nil (thn_n (W.seq (W.region (L.val (x_mv (v:=.slice _ _ _) rfl) rfl ?_))));refine L.ret (x_call kgrf_en24 rfl) rfl (outs36 _ _ l _ h0 om_) ?_;rintro _ w10 ⟨⟨rfl,hN⟩,hw⟩;have hB:=hB.carry hw;have h1:=h1.carry hw;have hbN:=hN.lt;have hN:=hN.mono (A':=fun k=>k≤w.heap.size∨w10.heap.size≤k) (fun k hk e=>e.resolve_right om_);refine L.val (x_as (v:=.map _) rfl) rfl ?_;refine L.nil (thn_n (W.seq (W.region (L.mkmapK (κ := Str) (K:=S) (V:=fun _=>True) Try.underlying49 rfl (fun w11 mp hw hz11=>?_)))));have hB:=hB.carry hw;have h1:=h1.carry hw;have hN:=hN.carry hw;have mp:IM w11 w10.heap.size []:=mp;refine L.val (x_as (v:=.map _) rfl) rfl ?_;refine L.nil (thn_n (W.seq (W.region (L.val (x_mv (v:=.slice _ _ _) rfl) rfl ?_))));refine L.ret (x_call kgrf_en25 rfl) rfl (clone36 _ _ f _ h1 om_) ?_;rintro v13 w13 ⟨hO,hw⟩;have hB:=hB.carry hw;have h1:=h1.carry hw;have hN:=hN.carry hw;have mp:=mp.carry hw;have hO:=hO.weak (base':=w10.heap.size+1) om_;obtain ⟨a13,c13,e13,-⟩:=own_shape hO;subst e13;refine L.val (x_as (v:=.slice _ _ _) rfl) rfl ?_;refine L.nil (thn_n (W.seq (W.block (W.loop (fun m' E w'=>∃ (todo:List Str) (vT:Value) (m:List (Str × Int)) (c:Nat),m'=todo.length+(unL l (m.map (·.1))).length∧E 5=.map (some w.heap.size)∧E 6=.map (some w10.heap.size)∧E 7=vT∧(Bel w w')∧(NextMap (fun k=>k≤w.heap.size∨w10.heap.size≤k) w' w.heap.size (nextS l))∧(IM w' w10.heap.size m)∧(Own w' (w10.heap.size+1) 9 1 vT todo.length (todo.map S))∧(∀ x,x∈todo∨x∈m.map (·.1)→Rch l f x)∧(∀ x∈f,x∈todo∨x∈m.map (·.1))∧(∀ x∈m.map (·.1),∀ y,(x,y)∈l→y∈todo∨y∈m.map (·.1))∧(∀ x,0≤getI m x∧(x∈m.map (·.1)↔1≤getI m x)∧getI m x≤(c:Int))∧(c+(todo.length+(unL l (m.map (·.1))).length)≤400000)) (f.length+(unL l (([]:List (Str × Int)).map (·.1))).length) ?_ ?_))))
  ·exact ⟨f,_,[],0,by omega,vi_,vi_,vi_,ao_,ao_,ao_,ao_,(by rintro x (h | h);exact Rch.base h;cases h),(by exact fun x h=>.inl h),(by intro x h;cases h),(by intro x;rw [getI_nil];exact ⟨by omega,⟨fun h=>(by cases h),fun h=>om_⟩,by omega⟩),(by have:=un_le l (([]:List (Str × Int)).map (·.1));omega)⟩
  ·rintro _ E wL14 ⟨todo,vT,m,c,em,e5,e6,e7,hB,hN,mp,hO,hre,hfr,hcl,hva,hmu⟩;rw [upd_self e5,upd_self e6,upd_self e7];refine W.seq (W.seq (W.region ?_));obtain ⟨aT,cT,eT,-⟩:=own_shape hO;subst eT;have hbm:=mp.lt;have hbn:=hN.lt;have hsL:=hB.size;refine L.val (x_mv (v:=.slice _ _ _) rfl) rfl ?_;refine L.val (x_len_slice Try.underlying23 rfl) rfl ?_;refine L.val (x_gtr rfl rfl) rfl ?_;refine L.nil (thn_n (W.cond (b:=_) rfl (fun g16=>?_) (fun g16=>?_)))
   ·have h16:=of_decide_eq_true g16;have hpos:0<todo.length:=by omega
    obtain ⟨bT,rfl⟩:=own_pos hO om_;obtain ⟨n,hn⟩:∃ n,n=todo.getD (todo.length - 1) []:=⟨_,rfl⟩;obtain ⟨t1,ht1⟩:∃ t,t=todo.take (todo.length - 1):=⟨_,rfl⟩;have hlast:todo=t1++[n]:=by
      rw [ht1,hn];have:=take_snoc (d:=([]:Str)) (l:=todo) (k:=todo.length - 1) om_;rw [show todo.length - 1+1=todo.length by omega,List.take_length] at this;exact this
    have hl1:t1.length=todo.length - 1:=by rw [ht1,List.length_take];omega
    have hcut:=own_cut hO (j:=todo.length - 1) om_;rw [Nat.mul_one,← List.map_take,← ht1,← hl1] at hcut;have hnR:Rch l f n:=hre n (.inl (by rw [hlast];simp));have hvn:=hva n;have hlo:=fun j hj=>Own.lt hO (j:=j) hj
    refine W.skip (thn_n (W.block (W.seq (W.region (L.val (x_mv (v:=.slice _ _ _) rfl) rfl ?_)))));refine L.val (x_mv (v:=.slice _ _ _) rfl) rfl ?_;refine L.val (x_len_slice Try.underlying23 rfl) rfl ?_;refine L.val (x_sub (c:=((todo.length - 1:Nat):Int)) rfl rfl (by rw [wr64 om_];omega)) rfl ?_;refine L.val (x_ia1 (j:=todo.length - 1) Try.underlying23 kgrf_sz9 rfl rfl om_ om_) rfl ?_;refine L.val (x_ld (v:=S _) kgrf_oc9 rfl (own_cell1 hO om_)) rfl ?_;rw [← hn];refine L.val (x_as (v:=S _) rfl) rfl ?_;refine L.nil (thn_n (W.seq (W.region (L.val (x_mv (v:=.slice _ _ _) rfl) rfl ?_))));refine L.val (x_mv (v:=.slice _ _ _) rfl) rfl ?_;refine L.val (x_len_slice Try.underlying23 rfl) rfl ?_;refine L.val (x_sub (c:=((t1.length:Nat):Int)) rfl rfl (by rw [wr64 om_];omega)) rfl ?_;refine L.val (x_shi (j:=t1.length) Try.underlying23 kgrf_sz9 rfl rfl rfl (by obtain ⟨_,_,e,hc⟩:=own_shape hO;cases e;omega)) rfl ?_;refine L.val (x_as (v:=.slice _ _ _) rfl) rfl ?_;refine L.nil (thn_n (W.seq (W.region (L.val (x_mv (v:=.map _) rfl) rfl ?_))));refine L.val (x_mv (v:=S _) rfl) rfl ?_;refine L.val (x_look0 (z:=.int .i64 0) Try.underlying49 (klawS Try.underlying9) kr_ rfl rfl trivial mp (getI_look m n)) rfl ?_;refine L.val (x_add rfl rfl (wr64 om_)) rfl ?_;refine L.mapsetK (k:=n) (v:=.int .i64 (getI m n+1)) Try.underlying49 (klawS Try.underlying9) rfl rfl trivial rfl mp (fun wl30 mp hw hzl30=>?_);rw [encI_put] at mp;obtain ⟨m2,hm2⟩:∃ x,x=putI m n (getI m n+1):=⟨_,rfl⟩;have hk2:∀ x,x∈m2.map (·.1)↔x=n∨x∈m.map (·.1):=fun x=>by rw [hm2];exact keysI_put m n x _
    have hg2:∀ x,getI m2 x=if x=n then getI m n+1 else getI m x:=fun x=>by rw [hm2];exact getI_put m n x _
    have mp:IM wl30 w10.heap.size m2:=by rw [hm2];exact mp
    have hB:=hB.set hw om_;have hN:=hN.carryR hw (fun e=>by have e:_=_:=e;omega) (fun k e=>.inr (by have e:k=_:=e;omega));have hcut:=Own.carryR hcut hw (fun j hj e=>by have e:j=_:=e;have:=hlo j hj;omega);have hva2:∀ x,0≤getI m2 x∧(x∈m2.map (·.1)↔1≤getI m2 x)∧getI m2 x≤((c+1:Nat):Int):=fun x=>by
      have hx:=hva x;rw [hg2 x,hk2 x];by_cases e:x=n
      · rw [if_pos e];exact ⟨by omega,⟨fun _=>by omega,fun _=>.inl e⟩,by omega⟩
      · rw [if_neg e];refine ⟨hx.1,⟨fun h=>hx.2.1.1 (h.resolve_left e),fun h=>.inr (hx.2.1.2 h)⟩,by omega⟩
    refine L.nil (thn_n (W.seq (W.region (L.val (x_mv (v:=.map _) rfl) rfl ?_))));refine L.val (x_mv (v:=S _) rfl) rfl ?_;refine L.val (x_look0 (z:=.int .i64 0) Try.underlying49 (klawS Try.underlying9) kr_ rfl rfl trivial mp (getI_look m2 n)) rfl ?_;refine L.val (x_eql rfl rfl) rfl ?_;refine L.nil (thn_n (W.cond (b:=_) rfl (fun g35=>?_) (fun g35=>?_)))
    ·have h35:=of_decide_eq_true g35;have hnk:n∉m.map (·.1):=fun h=>by
       have h1:=hvn.2.1.1 h;rw [hg2 n,if_pos rfl] at h35;omega
     have hun:=un_put (l:=l) hk2 hnk;have hnx:=next_len l n;obtain ⟨lN,hN1,hN2⟩:=id hN;have hvN:=hN2 n;obtain ⟨pN,cN,eN,-⟩:=id hvN;rw [eN] at hvN;have hre2:∀ x,x∈t1++nextS l n∨x∈m2.map (·.1)→Rch l f x:=fun x h=>by
       rcases h with h | h
       · rcases List.mem_append.1 h with h | h
         · exact hre x (.inl (by rw [hlast];simp [h]))
         · exact Rch.step hnR (mem_next.1 h)
       · rcases (hk2 x).1 h with e | h
         · rw [e];exact hnR
         · exact hre x (.inr h)
     have hto:∀ x,x∈todo∨x∈m.map (·.1)→x∈t1++nextS l n∨x∈m2.map (·.1):=fun x h=>by
       rcases h with h | h
       · rw [hlast] at h;rcases List.mem_append.1 h with h | h
         · exact .inl (List.mem_append.2 (.inl h))
         · exact .inr ((hk2 x).2 (.inl (List.mem_singleton.1 h)))
       · exact .inr ((hk2 x).2 (.inr h))
     have hfr2:∀ x∈f,x∈t1++nextS l n∨x∈m2.map (·.1):=fun x hx=>hto x (hfr x hx)
     have hcl2:∀ x∈m2.map (·.1),∀ y,(x,y)∈l→y∈t1++nextS l n∨y∈m2.map (·.1):=fun x hx y hy=>by
       rcases (hk2 x).1 hx with e | hx
       · exact .inl (List.mem_append.2 (.inr (mem_next.2 (by rw [← e];exact hy))))
       · exact hto y (hcl x hx y hy)
     obtain ⟨td,htd⟩:∃ t,t=t1++nextS l n:=⟨_,rfl⟩;rw [← htd] at hre2 hfr2 hcl2;have htdl:td.length=t1.length+(nextS l n).length:=by rw [htd,List.length_append]
     refine W.region (L.val (x_mv (v:=.slice _ _ _) rfl) rfl ?_);refine L.val (x_mv (v:=.map _) rfl) rfl ?_;refine L.val (x_mv (v:=S _) rfl) rfl ?_;refine L.val (x_look0 (z:=.slice none 0 0) Try.underlying47 (klawS Try.underlying9) kr_ rfl rfl trivial hN1 eN) rfl ?_;refine L.appendN (m:=(nextS l n).length) Try.underlying23 kgrf_el9 rfl rfl rfl hcut (by rw [List.length_map,Nat.mul_one]) (strs_all hvN) (by intro u hu;obtain ⟨x,-,rfl⟩:=List.mem_map.1 hu;rfl) om_ om_ (fun v40 w40 hO40 hg hob40=>?_);have hB:=hB.step hg (fun i hi e=>by have:=hlo i e;omega);have hN:=hN.carryR hg (fun e=>by have:=hlo _ e;omega) (fun k e=>.inr (by have:=hlo k e;omega));have mp:=MapAtK.carryR mp hg (fun e=>by have:=hlo _ e;omega);obtain ⟨a40,c40,e40,-⟩:=own_shape hO40;subst e40;have hO2:Own w40 (w10.heap.size+1) 9 1 (.slice a40 (t1.length+(nextS l n).length) c40) td.length (td.map S):=by
       rw [htdl,htd,List.map_append];exact hO40
     refine L.val (x_as (v:=.slice _ _ _) rfl) rfl ?_;refine L.nil (blk_n (thn_n ⟨rfl,?_⟩));refine ⟨_,?_,td,_,m2,c+1,rfl,vi_,vi_,vi_,ao_,ao_,ao_,(by exact hO2),(by exact hre2),(by exact hfr2),(by exact hcl2),(by exact hva2),om_⟩;omega
    ·have h35:=of_decide_eq_false g35;have hnk:n∈m.map (·.1):=by
       refine Classical.byContradiction fun h=>?_
       have h1:¬ 1≤getI m n:=fun e=>h (hvn.2.1.2 e)
       rw [hg2 n,if_pos rfl] at h35;omega
     have hks:∀ x,x∈m2.map (·.1)↔x∈m.map (·.1):=fun x=>by
       rw [hk2];exact ⟨fun h=>by rcases h with e | h;rw [e];exact hnk;exact h,.inr⟩
     have hun:=congrArg List.length (un_same (l:=l) hks);obtain ⟨td,htd⟩:∃ t,t=t1:=⟨_,rfl⟩;have hto:∀ x,x∈todo∨x∈m.map (·.1)→x∈td∨x∈m2.map (·.1):=fun x h=>by
       rcases h with h | h
       · rw [hlast] at h;rcases List.mem_append.1 h with h | h
         · exact .inl (by rw [htd];exact h)
         · exact .inr ((hk2 x).2 (.inl (List.mem_singleton.1 h)))
       · exact .inr ((hk2 x).2 (.inr h))
     have hre2:∀ x,x∈td∨x∈m2.map (·.1)→Rch l f x:=fun x h=>by
       rcases h with h | h
       · exact hre x (.inl (by rw [hlast];rw [htd] at h;simp [h]))
       · exact hre x (.inr ((hks x).1 h))
     have hfr2:∀ x∈f,x∈td∨x∈m2.map (·.1):=fun x hx=>hto x (hfr x hx)
     have hcl2:∀ x∈m2.map (·.1),∀ y,(x,y)∈l→y∈td∨y∈m2.map (·.1):=fun x hx y hy=>hto y (hcl x ((hks x).1 hx) y hy)
     have htdl:td.length=t1.length:=by rw [htd]
     have hO2:Own wl30 (w10.heap.size+1) 9 1 (.slice (some ⟨bT,0,none⟩) t1.length cT) td.length (td.map S):=by rw [htd];exact hcut
     refine W.skip (blk_n (thn_n ⟨rfl,?_⟩));refine ⟨_,?_,td,_,m2,c+1,rfl,vi_,vi_,vi_,ao_,ao_,ao_,(by exact hO2),(by exact hre2),(by exact hfr2),(by exact hcl2),(by exact hva2),om_⟩;omega
   ·have h16:=dlt_f g16;have ht0:todo=[]:=List.eq_nil_of_length_eq_zero om_;have hnd:(m.map (·.1)).Nodup:=by have:=mp.nodup;unfold encI at this;rw [List.map_map] at this;exact this
    have hE:onceL (m.map (·.1))=reachS l f:=reach_eq (strict_once _) (fun x hx=>mem_once.2 ((hfr x hx).resolve_left (by rw [ht0];simp))) (fun a ha h=>mem_once.2 ((hcl a.1 (mem_once.1 h) a.2 ha).resolve_left (by rw [ht0];simp))) (fun x hx=>hre x (.inr (mem_once.1 hx)));have hml:(m.map (·.1)).length≤400000:=by
      have h1:=strict_len_le hnd (m:=reachS l f) fun x hx=>mem_reach.2 (hre x (.inr hx))
      have:=reach_len l f;omega
    refine W.exit (thn_x (thn_x (blk_hit ?_)));refine thn_n (W.seq (W.region (L.val (x_mv (v:=.map _) rfl) rfl ?_)));refine L.ret (x_call kgrf_en27 rfl) rfl (keys_ok _ _) ?_;rintro _ w42 ⟨rfl,bx42,hw⟩;have hB:=hB.carry hw;have mp:=mp.carry hw;have hs42:=hB.size;refine L.ret (x_call kgrf_en26 rfl) rfl (sorted_ok _ _ ((encI m).map (·.1)) _ kgrf_en50 (by rw [encI_keys];omega) (fun _ h=>h) (by rw [List.length_map];exact keys_seq _ _ _ (encI m) _ bx42.lt (bx42.cell (i:=0) rfl) mp.str)) ?_;rintro v43 w43 ⟨hS,hw⟩;have hB:=hB.carry hw;have mp:=mp.carry hw;rw [encI_keys] at hS;have hL:=sortedNew_left hS hnd;rw [hE] at hL;have hR:=(hL.weak hs42).strs (reach_short hxl hxf) (by have:=reach_len l f;omega) (fun k=>k<w.heap.size) (fun j hj e=>by have e:j<_:=e;omega);obtain ⟨p43,c43,rfl,-⟩:=hL.shape;refine L.val (x_as (v:=.slice _ _ _) rfl) rfl ?_;refine L.nil (thn_n (W.ret (fin_mk (.inr rfl) ?_)));exact ⟨hR,hB⟩
end Go.Gx
