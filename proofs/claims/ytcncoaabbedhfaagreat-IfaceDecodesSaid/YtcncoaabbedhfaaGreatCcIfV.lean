/- The program's Decode. Conditions: none. -/
import Derived.Shelf.Strings.OnBuilder
import Derived.Test.YtcncoaabbedhfaaGreatProg
import Derived.Test.YtcncoaabbedhfaaGreatCcIfO
namespace Go.Gx
open Go.Proofs
theorem kifv_ag41:aggT Tryz.prog 41 5=true:=by kernel_rfl
theorem kifv_ag43:aggT Tryz.prog 43 7=true:=by kernel_rfl
theorem kifv_el43:elT Tryz.prog 43 7=true:=by kernel_rfl
theorem kifv_en11:Go.Proofs.Enters Tryz.prog 11:=Go.Proofs.enters_of Tryz.func11 kr_ rfl
theorem kifv_en34:Go.Proofs.Enters Tryz.prog 34:=Go.Proofs.enters_of Tryz.func34 kr_ rfl
theorem kifv_en35:Go.Proofs.Enters Tryz.prog 35:=Go.Proofs.enters_of Tryz.func35 kr_ rfl
theorem kifv_en36:Go.Proofs.Enters Tryz.prog 36:=Go.Proofs.enters_of Tryz.func36 kr_ rfl
theorem kifv_fo43_0:fieldOff Tryz.prog 43 0=some 0:=by kernel_rfl
theorem kifv_fo43_2:fieldOff Tryz.prog 43 2=some 2:=by kernel_rfl
theorem kifv_fo67_2:fieldOff Tryz.prog 67 2=some 2:=by kernel_rfl
theorem kifv_fo67_3:fieldOff Tryz.prog 67 3=some 3:=by kernel_rfl
theorem kifv_oc3:oneCellT Tryz.prog 3=true:=by kernel_rfl
theorem kifv_oc4:oneCellT Tryz.prog 4=true:=by kernel_rfl
theorem kifv_si43:structInfo Tryz.prog 43=some ([(0,1),(1,1),(2,5)],[Value.int .i64 0,S [],Value.int .i64 0,S [],S [],Value.slice none 0 0,Value.slice none 0 0]):=by kernel_rfl
theorem kifv_si67:structInfo Tryz.prog 67=some ([(0,1),(1,1),(2,1),(3,1)],[S [],Value.int .i64 0,Value.int .i64 0,Value.bool false]):=by kernel_rfl
theorem kifv_sz3:(Tryz.prog.info? 3).map (·.size)=some 1:=by kernel_rfl
theorem kifv_zr43:(Tryz.prog.info? 43).bind (·.zero)=some (Value.agg [Value.int .i64 0,S [],Value.int .i64 0,S [],S [],Value.slice none 0 0,Value.slice none 0 0].toArray):=by kernel_rfl
theorem tkItems_step {s:Str} {n i:Nat} {a:List It × Tk} {T:Tk} {l:List It} (hi:i<n) (h:a=(l++(tkItems s (n - i) T).1,(tkItems s (n - i) T).2)):
    a=((l++[(tkItem s T).1])++(tkItems s (n - (i+1)) (tkItem s T).2).1,(tkItems s (n - (i+1)) (tkItem s T).2).2):=by
  rw [h,show n - i=n - (i+1)+1 by omega,tkItems,List.append_assoc];rfl
theorem tkItem_okT {s:Str} {t:Tk} (h:t.ok s):(tkItem s t).2.ok s:=by
  unfold tkItem;dsimp only;have h2:=tkText_okT (tkNum_okT (m:=3) h);split
  · exact h2
  · exact tkSh_okT 40 _ ⟨h2.1,by show 0≤401;omega,fun _=>by show 0≤400;omega⟩ (by show 0≤400;omega)
theorem tkItem_of {s:Str} {t:Tk} {k:Nat × Tk} {n:Str × Tk} (hk:k=tkNum s 3 t) (hn:n=tkText s k.2):
    tkItem s t=if k.1=2∨n.2.bad=true then (⟨k.1,n.1,.mk 0 [] [] [] []⟩,n.2) else (⟨k.1,n.1,(tkSh s 40 ⟨n.2.pos,0,n.2.bad⟩).1⟩,(tkSh s 40 ⟨n.2.pos,0,n.2.bad⟩).2):=by
  unfold tkItem;dsimp only;rw [← hk,← hn]
theorem shape_40 (s:Str) (hs:s.length≤1000000000) (b:Nat) (t:Tk) (w:World) (h1:TkAt w b s t) (h2:t.ok s) (h3:t.parts≤400):
    Ret Tryz.prog 36 #[.pointer (some ⟨b,0,none⟩),.int .i64 1] w fun v w'=>(∃ cs,v=.agg cs.toArray∧ShC (fun k=>k<w.heap.size) w' cs (tkSh s 40 t).1∧TkAt w' b s (tkSh s 40 t).2)∧Gr (· = b) w w':=by
  have h:=shape_t s hs b 40 (Nat.le_refl _) t w h1 h2 h3
  rwa [show (41 - ((40:Nat):Int))=1 by decide] at h
set_option maxHeartbeats 1000000 in
theorem dec_p (s:Str) (hs:s.length≤1000000000) (w:World):
    Ret Tryz.prog 15 #[S s] w fun v w'=>(∃ u,v=.tuple #[u,.int .i64 (decP s).2]∧ItsAt (fun k=>k<w.heap.size) w' u (decP s).1)∧Bel w w':=by
  refine ret_of_W Tryz.func15 rfl (Nat.le_of_ble_eq_true rfl) (res2 rfl) ?_;have hB:=Gr.refl (fun _=>False) w;refine W.seq (W.region (L.val (x_as (v:=.slice _ _ _) rfl) rfl ?_));refine L.val (x_as (v:=.int _ _) rfl) rfl ?_;refine L.nil (thn_n (W.seq (W.region (L.val (x_mv (v:=S _) rfl) rfl ?_))));refine L.val (x_build (cells:=[S _,.int _ _,.int _ _,.bool _]) kifv_si67 rfl rfl) rfl ?_;refine L.box (cs:=[S s,.int .i64 0,.int .i64 0,.bool false]) rfl rfl (fun w11 bx11 hw hz11=>?_);have hB:=hB.carry hw;have hT:TkAt w11 w.heap.size s ⟨0,0,false⟩:=bx11;have hok0:Tk.ok s ⟨0,0,false⟩:=⟨Nat.zero_le _,by show 0≤401;omega,fun _=>by show 0≤400;omega⟩;refine L.val (x_as (v:=.pointer _) rfl) rfl ?_;refine L.nil (thn_n (W.seq (W.region (L.val (x_as (v:=.slice _ _ _) rfl) rfl ?_))));refine L.nil (thn_n (W.seq (W.seq (W.region (L.val (x_mv (v:=.pointer _) rfl) rfl ?_)))));refine L.ret (x_call kifv_en34 rfl) rfl (number_t s hs w.heap.size 60 om_ ⟨0,0,false⟩ _ hT hok0.1) ?_;rintro _ w13 ⟨rfl,hT,hg13⟩;have hB:=hB.set hg13 (Nat.le_refl _);have hok1:=tkNum_okT (m:=60) hok0;have hm1:=(tkNum_pos (s:=s) (m:=60) hok0.1).2.2.1;obtain ⟨m,hm⟩:∃ z,z=tkNum s 60 ⟨0,0,false⟩:=⟨_,rfl⟩;rw [← hm] at hT hok1 hm1 ⊢;have hM0:tkItems s m.1 m.2=(([]:List It)++(tkItems s (m.1 - 0) m.2).1,(tkItems s (m.1 - 0) m.2).2):=rfl;have hD:decP s=if (tkItems s m.1 m.2).2.bad=true∨(encI (tkItems s m.1 m.2).1).2≠0∨(encI (tkItems s m.1 m.2).1).1≠s then ([],160) else ((tkItems s m.1 m.2).1,0):=by
    unfold decP;dsimp only;rw [← hm]
  refine L.val (x_mv (v:=.int _ _) rfl) rfl ?_;refine L.nil (thn_n (W.block (W.loop (fun m' E w'=>∃ (i:Nat) (T:Tk) (vO:Value) (l:List It) (rows:List (List Value)),m'=m.1 - i∧E 0=S s∧E 4=.pointer (some ⟨w.heap.size,0,none⟩)∧E 5=vO∧E 13=.int .i64 (m.1:Nat)∧E 14=.int .i64 (i:Nat)∧(i≤m.1)∧(Bel w w')∧(TkAt w' w.heap.size s T)∧(T.ok s)∧(l.length=i)∧(tkItems s m.1 m.2=(l++(tkItems s (m.1 - i) T).1,(tkItems s (m.1 - i) T).2))∧(Own w' (w.heap.size+1) 43 7 vO l.length rows.flatten)∧(RowsC ItC (AvP (w.heap.size+1) w' vO) w' rows l)) (m.1) ?_ ?_)))
  ·exact ⟨0,_,.slice none 0 0,[],[],by omega,vi_,vi_,vi_,vi_,vi_,ao_,ao_,ao_,ao_,(by rfl),(by exact hM0),(by exact own_nil),(by exact RowsC.nil)⟩
  ·rintro _ E wL15 ⟨i,T,vO,l,rows,em,e0,e4,e5,e13,e14,hi,hB,hT,hTo,hll,hM,hO,hR⟩;rw [upd_self e0,upd_self e4,upd_self e5,upd_self e13,upd_self e14];refine W.seq (W.region ?_);obtain ⟨aO,cO,eO,-⟩:=own_shape hO;subst eO;have hqO:=fun j hj=>Own.lt hO (j:=j) hj
   have hsL:=hB.size;have hTl:=Box.lt hT;refine L.val (x_lss rfl rfl) rfl ?_;refine L.nil (thn_n (W.seq (W.cond (b:=_) rfl (fun g15=>?_) (fun g15=>?_))))
   ·have h15:=of_decide_eq_true g15;have him:i<m.1:=by omega
    refine W.skip (thn_n (W.seq (W.block (W.seq (W.region (L.val (x_mv (v:=.pointer _) rfl) rfl ?_))))));refine L.ret (x_call kifv_en34 rfl) rfl (number_t s hs w.heap.size 3 om_ T _ hT hTo.1) ?_;rintro _ w17 ⟨rfl,hT,hg17⟩;have hB:=hB.set hg17 (Nat.le_refl _);have hO:=Own.carryR hO hg17 (fun j hj e=>by have e:j=_:=e;have h1:=hqO j hj;omega);have hR:=hR.carryR hg17 (fun j e=>.inl (by have e:j=_:=e;omega));have hs17:=hg17.size;have hok2:=tkNum_okT (m:=3) hTo;have hk3:=(tkNum_pos (m:=3) hTo.1).2.2.1;obtain ⟨kd,hkd⟩:∃ z,z=tkNum s 3 T:=⟨_,rfl⟩;rw [← hkd] at hT hok2 hk3 ⊢;refine L.val (x_mv (v:=.pointer _) rfl) rfl ?_;refine L.ret (x_call kifv_en35 rfl) rfl (text_t s hs w.heap.size kd.2 _ hT hok2.1) ?_;rintro _ w19 ⟨rfl,hT,hg19⟩;have hB:=hB.set hg19 (Nat.le_refl _);have hO:=Own.carryR hO hg19 (fun j hj e=>by have e:j=_:=e;have h1:=hqO j hj;omega);have hR:=hR.carryR hg19 (fun j e=>.inl (by have e:j=_:=e;omega));have hs19:=hg19.size;have hok3:=tkText_okT hok2;have hn3:=(tkText_pos hok2.1).2.2.1;obtain ⟨nm,hnm⟩:∃ z,z=tkText s kd.2:=⟨_,rfl⟩;rw [← hnm] at hT hok3 hn3 ⊢;have hIt:=tkItem_of hkd hnm;refine L.val (x_build (cells:=[.int _ _,S _,.int _ _,S _,S _,.slice _ _ _,.slice _ _ _]) kifv_si43 rfl rfl) rfl ?_;refine L.alloc (cs:=[Value.int .i64 0,S [],Value.int .i64 0,S [],S [],Value.slice none 0 0,Value.slice none 0 0]) kifv_zr43 rfl rfl (fun w6 bx6 hw hz6=>?_);have hB:=hB.carry hw;have hT:=hT.carry hw;have hO:=hO.carry hw;have hR:=hR.carry hw;have hs19b:=hB.size;have hz6b:=hz6;obtain ⟨b6,hb6⟩:∃ z,z=w19.heap.size:=⟨_,rfl⟩;rw [← hb6] at bx6 ⊢;have hb6b:wL15.heap.size≤b6:=by omega
    refine L.setRow kifv_ag43 rfl rfl bx6 rfl rfl (by simp [Value.oneCell',S]) (fun wl18 bx6 hw hzl18=>?_);have hsz:=hB.size;have hB:=hB.set hw om_;have hT:=hT.carryR hw om_;have hO:=Own.carryR hO hw (fun j hj e=>by have e:j=_:=e;have h1:=hqO j hj;omega);have hR:=hR.carryR hw (fun j e=>by have e:j=_:=e;first | exact .inl om_ | exact .inr (.inr om_));have hlt18:=bx6.lt;refine L.nil (thn_n (W.seq (W.seq (W.region (L.val (x_fa kifv_fo43_0 rfl) rfl ?_)))));refine L.val (x_ld (v:=.int _ _) kifv_oc3 rfl (bx6.cell0 rfl)) rfl ?_;refine L.val (x_neq rfl rfl) rfl ?_;refine L.val (x_mv (v:=.bool _) rfl) rfl ?_;refine' L.group0 5 25 29 29 24 true rfl ?_ ?_ ?_;rotate_left 1
    ·intro g24;have h24:=dne_t g24;refine L.gyes' (dj:=24) (b:=_) rfl rfl g24 ?_;refine L.val (x_mv (v:=.pointer _) rfl) rfl ?_;refine L.gyes' (dj:=24) (b:=_) rfl rfl g24 ?_;refine L.val (x_nil rfl) rfl ?_;refine L.gyes' (dj:=24) (b:=_) rfl rfl g24 ?_;refine L.val (x_fa kifv_fo67_3 rfl) rfl ?_;refine L.gyes' (dj:=24) (b:=_) rfl rfl g24 ?_;refine L.val (x_ld (v:=.bool _) kifv_oc4 rfl (hT.cell0 rfl)) rfl ?_;refine L.gyes' (dj:=24) (b:=_) rfl rfl g24 ?_;refine L.val (x_not rfl) rfl ?_;refine L.nil (thn_n ⟨rfl,rfl,?_,rfl⟩);repeat (first | exact jeq.refl _ _ _ | refine jeq.upd rfl ?_ | refine jeq.jk rfl rfl ?_)
    ·intro g24;(iterate 5 refine L.gno (dj:=24) (b:=_) rfl rfl g24 rfl ?_);refine L.nil (thn_n ⟨rfl,rfl,?_⟩);repeat (first | exact jeq.refl _ _ _ | refine jeq.upd rfl ?_ | refine jeq.jk rfl rfl ?_)
    intro J24 j24;refine L.val (x_and rfl j24) rfl ?_;refine L.nil (thn_n (W.cond (b:=_) rfl (fun g30=>?_) (fun g30=>?_)))
    ·have h30:=g30;have hc:¬ (kd.1=2∨nm.2.bad=true):=by
       simp only [Bool.and_eq_true,Bool.not_eq_true',decide_eq_false_iff_not] at g30;rintro (e | e)
       · exact g30.1 om_
       · rw [g30.2] at e;cases e
     rw [if_neg hc] at hIt;have hok4:Tk.ok s ⟨nm.2.pos,0,nm.2.bad⟩:=⟨hok3.1,by show 0≤401;omega,fun _=>by show 0≤400;omega⟩;refine W.seq (W.region (L.val (x_mv (v:=.pointer _) rfl) rfl ?_));refine L.val (x_nil rfl) rfl ?_;refine L.val (x_fa kifv_fo67_2 rfl) rfl ?_;refine L.set (v:=.int _ _) kifv_sz3 rfl rfl rfl hT rfl (fun wl32 hT hw hzl32=>?_);have hsz:=hB.size;have hB:=hB.set hw om_;have hO:=Own.carryR hO hw (fun j hj e=>by have e:j=_:=e;have h1:=hqO j hj;omega);have hR:=hR.carryR hw (fun j e=>by have e:j=_:=e;first | exact .inl om_ | exact .inr (.inr om_));have bx6:=bx6.carryR hw om_;have hT:TkAt wl32 w.heap.size s ⟨nm.2.pos,0,nm.2.bad⟩:=hT;refine L.nil (thn_n (W.region (L.val (x_mv (v:=.pointer _) rfl) rfl ?_)));refine L.ret (x_call kifv_en36 rfl) rfl (shape_40 s hs w.heap.size ⟨nm.2.pos,0,nm.2.bad⟩ _ hT hok4 (by show 0≤400;omega)) ?_;rintro _ w35 ⟨⟨cs35,rfl,ht,hT⟩,hg35⟩;have hs35:=hg35.size;have hB:=hB.set hg35 (Nat.le_refl _);have hO:=Own.carryR hO hg35 (fun j hj e=>by have e:j=_:=e;have h1:=hqO j hj;omega);have hR:=hR.carryR hg35 (fun j e=>.inl (by have e:j=_:=e;omega));have bx6:=bx6.carryR hg35 (fun e=>by have e:b6=_:=e;omega);have hc35:cs35.length=5∧∀ u∈cs35,u.oneCell'=true:=⟨ht.len,ht.one⟩;have ht:ShC (fun j=>j<wl32.heap.size∨w35.heap.size≤j) w35 cs35 (tkSh s 40 ⟨nm.2.pos,0,nm.2.bad⟩).1:=ht.mono (fun j hj h=>by
       rcases h with h | h
       · exact h
       · omega)
     refine L.val (x_fa kifv_fo43_2 rfl) rfl ?_;refine L.setPart (o:=2) (k:=5) (new:=cs35) kifv_ag41 rfl rfl bx6 (Nat.le_refl 7) hc35.1 hc35.2 (fun wl36 bx6 hw hzl36=>?_);have bx6:Box wl36 b6 43 ([.int .i64 (kd.1:Nat),S nm.1]++cs35):=by simpa using bx6
     have hB:=hB.set hw om_;have hO:=Own.carryR hO hw (fun j hj e=>by have e:j=_:=e;have h1:=hqO j hj;omega);have hR:=hR.carryR hw (fun j e=>.inr (.inr (by have e:j=_:=e;omega)));have hT:=TkAt.carryR hT hw (fun e=>by have e:_=b6:=e;omega);have ht:=ht.carryR hw (fun j e=>.inl (by have e:j=_:=e;omega));obtain ⟨x0,hx0⟩:∃ x0:It,x0=⟨kd.1,nm.1,(tkSh s 40 ⟨nm.2.pos,0,nm.2.bad⟩).1⟩:=⟨_,rfl⟩;obtain ⟨T2,hT2⟩:∃ x:Tk,x=(tkSh s 40 ⟨nm.2.pos,0,nm.2.bad⟩).2:=⟨_,rfl⟩;obtain ⟨csx,hcx⟩:∃ c:List Value,c=[.int .i64 (kd.1:Nat),S nm.1]++cs35:=⟨_,rfl⟩;obtain ⟨sq,hsq⟩:∃ sq,sq=w35.heap.size:=⟨_,rfl⟩;have hsq1:wl18.heap.size≤sq∧sq≤wl36.heap.size:=by omega
     have hcl:csx.length=7:=by rw [hcx,List.length_append,hc35.1];rfl
     have hc1:∀ u∈csx,u.oneCell'=true:=by
       rw [hcx];intro u hu;rcases List.mem_append.1 hu with hu | hu
       · simp only [List.mem_cons,List.not_mem_nil,or_false] at hu;rcases hu with rfl | rfl <;> rfl
       · exact hc35.2 u hu
     have hix:ItC (fun j=>j<wl18.heap.size∨sq≤j) wl36 csx x0:=by
       rw [hcx,hx0,hsq];exact ⟨cs35,rfl,ht.mono (fun j _ h=>h.imp (fun h=>by omega) id),by show nm.1.length≤_;omega⟩
     have hit:tkItem s T=(x0,T2):=by rw [hIt,hx0,hT2]
     have hM2:=tkItems_step him hM;have hTo2:=tkItem_okT hTo;rw [hit] at hM2 hTo2;rw [← hT2] at hT;rw [← hcx] at bx6;refine L.nil (thn_n (W.region (L.val (x_mv (v:=.slice _ _ _) rfl) rfl ?_)));refine L.val (x_ldn (vs:=csx) kifv_ag43 rfl hcl (bx6.row hcl)) rfl ?_;refine L.bs (sz:=7) (cells:=csx) Tryz.underlying22 kifv_el43 rfl (by show (partsOk 7 0 [(0,Value.agg csx.toArray)] && decide ([((0:Nat),Value.agg csx.toArray)].length=1) && decide (0<1) && decide (1 * 7≤16777216))=true;simp [partsOk,hcl,Value.cells]) (by show ([((0:Nat),Value.agg csx.toArray)].map fun x=>x.2.cells.toList).flatten=csx;simp [Value.cells]) rfl (fun w39 bx39 hw hz39=>?_);have hB:=hB.carry hw;have hT:=hT.carry hw;have hO:=hO.carry hw;have hR:=hR.carry hw;have bx6:=bx6.carry hw;have hix:=hix.carry hw;have hz39b:=hz39;have hs39:=hB.size;refine L.appendN (m:=1) Tryz.underlying22 kifv_el43 rfl rfl rfl hO (by rw [hcl]) (holdsN_box bx39) hc1 om_ om_ (fun v40 w40 hO40 hg hob40=>?_);obtain ⟨a40,c40,e40,-⟩:=own_shape hO40;subst e40;have hsg:=hg.size;have hB:=hB.step hg (fun i hi e=>by have:=(hqO _ e).1;omega);have hT:=TkAt.carryR hT hg (fun e=>by have:=(hqO _ e).1;omega);have hov:(Value.slice a40 (l.length+1) c40).ownBlock=(Value.slice aO l.length cO).ownBlock∨∀ k,some k=(Value.slice a40 (l.length+1) c40).ownBlock→w39.heap.size≤k:=
       hob40.imp id (fun h k e=>by have:=Option.some.inj (e.trans h);omega)
     have hO2:Own w40 (w.heap.size+1) 43 7 (.slice a40 (l.length+1) c40) (l++[x0]).length (rows++[csx]).flatten:=by
       rw [List.length_append,List.flatten_append];simpa using hO40
     have hR2:RowsC ItC (AvP (w.heap.size+1) w40 (.slice a40 (l.length+1) c40)) w40 (rows++[csx]) (l++[x0]):=by
       refine RowsC.append ((hR.carryR hg (fun j e=>.inr (.inl e))).mono (fun j _ h=>avp_step om_ (hov.imp id (fun h k e=>by have:=h k e;omega)) h)) (RowsC.one ((hix.carryR hg (fun j e=>.inl (by have:=(hqO j e).2;omega))).mono (fun j _ h=>?_)));rcases h with h | h | h
       · exact .inl om_
       · rcases hov with e | e
         · exact .inl (by have:=(hqO j (h.trans e)).2;omega)
         · exact .inr (by have:=e j h;omega)
       · exact .inr om_
     refine L.val (x_as (v:=.slice _ _ _) rfl) rfl ?_;refine L.nil (blk_n (thn_n (W.region (L.val (x_add rfl rfl (wr64 om_)) rfl ?_))));refine L.val (x_mv (v:=.int _ _) rfl) rfl ?_;refine L.nil (thn_n ⟨rfl,?_⟩);refine ⟨_,?_,i+1,T2,_,l++[x0],rows++[csx],rfl,vi_,vi_,vi_,vi_,vi_,ao_,ao_,ao_,(by exact hTo2),(by rw [List.length_append,hll];rfl),(by exact hM2),(by exact hO2),(by exact hR2)⟩;omega
    ·have h30:=g30;have hc:kd.1=2∨nm.2.bad=true:=by
       simp only [Bool.and_eq_false_iff,Bool.not_eq_false',decide_eq_true_eq] at g30;rcases g30 with e | e
       · exact .inl om_
       · exact .inr e
     rw [if_pos hc] at hIt;obtain ⟨x0,hx0⟩:∃ x0:It,x0=⟨kd.1,nm.1,.mk 0 [] [] [] []⟩:=⟨_,rfl⟩;obtain ⟨T2,hT2⟩:∃ x:Tk,x=nm.2:=⟨_,rfl⟩;obtain ⟨csx,hcx⟩:∃ c:List Value,c=[.int .i64 (kd.1:Nat),S nm.1,.int .i64 0,S [],S [],.slice none 0 0,.slice none 0 0]:=⟨_,rfl⟩;obtain ⟨sq,hsq⟩:∃ sq,sq=wl18.heap.size:=⟨_,rfl⟩;have hsq1:wl18.heap.size≤sq∧sq≤wl18.heap.size:=by omega
     have hcl:csx.length=7:=by rw [hcx];rfl
     have hc1:∀ u∈csx,u.oneCell'=true:=by rw [hcx];simp [Value.oneCell',S]
     have hix:ItC (fun j=>j<wl18.heap.size∨sq≤j) wl18 csx x0:=by
       rw [hcx,hx0];exact ⟨_,rfl,sh_zero,by show nm.1.length≤_;omega⟩
     have hit:tkItem s T=(x0,T2):=by rw [hIt,hx0,hT2]
     have hM2:=tkItems_step him hM;have hTo2:=tkItem_okT hTo;rw [hit] at hM2 hTo2;rw [← hT2] at hT;rw [← hcx] at bx6;refine W.skip (thn_n (W.region (L.val (x_mv (v:=.slice _ _ _) rfl) rfl ?_)));refine L.val (x_ldn (vs:=csx) kifv_ag43 rfl hcl (bx6.row hcl)) rfl ?_;refine L.bs (sz:=7) (cells:=csx) Tryz.underlying22 kifv_el43 rfl (by show (partsOk 7 0 [(0,Value.agg csx.toArray)] && decide ([((0:Nat),Value.agg csx.toArray)].length=1) && decide (0<1) && decide (1 * 7≤16777216))=true;simp [partsOk,hcl,Value.cells]) (by show ([((0:Nat),Value.agg csx.toArray)].map fun x=>x.2.cells.toList).flatten=csx;simp [Value.cells]) rfl (fun w39 bx39 hw hz39=>?_);have hB:=hB.carry hw;have hT:=hT.carry hw;have hO:=hO.carry hw;have hR:=hR.carry hw;have bx6:=bx6.carry hw;have hix:=hix.carry hw;have hz39b:=hz39;have hs39:=hB.size;refine L.appendN (m:=1) Tryz.underlying22 kifv_el43 rfl rfl rfl hO (by rw [hcl]) (holdsN_box bx39) hc1 om_ om_ (fun v40 w40 hO40 hg hob40=>?_);obtain ⟨a40,c40,e40,-⟩:=own_shape hO40;subst e40;have hsg:=hg.size;have hB:=hB.step hg (fun i hi e=>by have:=(hqO _ e).1;omega);have hT:=TkAt.carryR hT hg (fun e=>by have:=(hqO _ e).1;omega);have hov:(Value.slice a40 (l.length+1) c40).ownBlock=(Value.slice aO l.length cO).ownBlock∨∀ k,some k=(Value.slice a40 (l.length+1) c40).ownBlock→w39.heap.size≤k:=
       hob40.imp id (fun h k e=>by have:=Option.some.inj (e.trans h);omega)
     have hO2:Own w40 (w.heap.size+1) 43 7 (.slice a40 (l.length+1) c40) (l++[x0]).length (rows++[csx]).flatten:=by
       rw [List.length_append,List.flatten_append];simpa using hO40
     have hR2:RowsC ItC (AvP (w.heap.size+1) w40 (.slice a40 (l.length+1) c40)) w40 (rows++[csx]) (l++[x0]):=by
       refine RowsC.append ((hR.carryR hg (fun j e=>.inr (.inl e))).mono (fun j _ h=>avp_step om_ (hov.imp id (fun h k e=>by have:=h k e;omega)) h)) (RowsC.one ((hix.carryR hg (fun j e=>.inl (by have:=(hqO j e).2;omega))).mono (fun j _ h=>?_)));rcases h with h | h | h
       · exact .inl om_
       · rcases hov with e | e
         · exact .inl (by have:=(hqO j (h.trans e)).2;omega)
         · exact .inr (by have:=e j h;omega)
       · exact .inr om_
     refine L.val (x_as (v:=.slice _ _ _) rfl) rfl ?_;refine L.nil (blk_n (thn_n (W.region (L.val (x_add rfl rfl (wr64 om_)) rfl ?_))));refine L.val (x_mv (v:=.int _ _) rfl) rfl ?_;refine L.nil (thn_n ⟨rfl,?_⟩);refine ⟨_,?_,i+1,T2,_,l++[x0],rows++[csx],rfl,vi_,vi_,vi_,vi_,vi_,ao_,ao_,ao_,(by exact hTo2),(by rw [List.length_append,hll];rfl),(by exact hM2),(by exact hO2),(by exact hR2)⟩;omega
   ·have h15:=dlt_f g15;have hii:i=m.1:=by omega
    have hits:ItsAt (fun k=>k<w.heap.size+1) wL15 (.slice aO l.length cO) l:=hR.doneB (base:=w.heap.size+1) (e:=43) hO om_ (fun j h=>.inl h) (fun j h1 h2=>by have:=(hqO j h1).1;have h2:j<_:=h2;omega);have hE:tkItems s m.1 m.2=(l,T):=by rw [hM,hii,Nat.sub_self,tkItems,List.append_nil]
    rw [hE] at hD;dsimp only at hD;refine W.exit (thn_x (thn_x (blk_hit ?_)));refine thn_n (W.seq (W.region (L.val (x_mv (v:=.slice _ _ _) rfl) rfl ?_)));refine L.ret (x_call kifv_en11 rfl) rfl (encP_ok _ _ l _ hits) ?_;rintro _ w44 ⟨rfl,hw⟩;have hB:=hB.carry hw;have hT:=hT.carry hw;have hits:=hits.carry hw;refine L.val (x_mv (v:=_) rfl) rfl ?_;refine L.val (x_ext (v:=S _) rfl rfl) rfl ?_;refine L.val (x_ext (v:=.int _ _) rfl rfl) rfl ?_;refine L.val (x_as (v:=S _) rfl) rfl ?_;refine L.val (x_as (v:=.int _ _) rfl) rfl ?_;refine L.nil (thn_n (W.seq (W.seq (W.region (L.val (x_mv (v:=.pointer _) rfl) rfl ?_)))));refine L.val (x_nil rfl) rfl ?_;refine L.val (x_fa kifv_fo67_3 rfl) rfl ?_;refine L.val (x_ld (v:=.bool _) kifv_oc4 rfl (hT.cell0 rfl)) rfl ?_;refine L.val (x_mv (v:=.bool _) rfl) rfl ?_;refine' L.group0 2 52 53 53 51 false rfl ?_ ?_ ?_;rotate_left 1
    ·intro g51;have h51:=g51;refine L.gyes' (dj:=51) (b:=_) rfl rfl g51 ?_;refine L.val (x_mv (v:=.int _ _) rfl) rfl ?_;refine L.gyes' (dj:=51) (b:=_) rfl rfl g51 ?_;refine L.val (x_neq rfl rfl) rfl ?_;refine L.nil (thn_n ⟨rfl,rfl,?_,rfl⟩);repeat (first | exact jeq.refl _ _ _ | refine jeq.upd rfl ?_ | refine jeq.jk rfl rfl ?_)
    ·intro g51;refine L.gno (dj:=51) (b:=_) rfl rfl g51 rfl ?_;refine L.gno (dj:=51) (b:=_) rfl rfl g51 rfl ?_;refine L.nil (thn_n ⟨rfl,rfl,?_⟩);repeat (first | exact jeq.refl _ _ _ | refine jeq.upd rfl ?_ | refine jeq.jk rfl rfl ?_)
    intro J51 j51;refine L.val (x_or rfl j51) rfl ?_;refine L.val (x_mv (v:=.bool _) rfl) rfl ?_;refine' L.group0 3 56 58 58 55 false rfl ?_ ?_ ?_;rotate_left 1
    ·intro g55;have h55:=g55;refine L.gyes' (dj:=55) (b:=_) rfl rfl g55 ?_;refine L.val (x_mv (v:=S _) rfl) rfl ?_;refine L.gyes' (dj:=55) (b:=_) rfl rfl g55 ?_;refine L.val (x_mv (v:=S _) rfl) rfl ?_;refine L.gyes' (dj:=55) (b:=_) rfl rfl g55 ?_;refine L.val (x_nes rfl rfl) rfl ?_;refine L.nil (thn_n ⟨rfl,rfl,?_,rfl⟩);repeat (first | exact jeq.refl _ _ _ | refine jeq.upd rfl ?_ | refine jeq.jk rfl rfl ?_)
    ·intro g55;(iterate 3 refine L.gno (dj:=55) (b:=_) rfl rfl g55 rfl ?_);refine L.nil (thn_n ⟨rfl,rfl,?_⟩);repeat (first | exact jeq.refl _ _ _ | refine jeq.upd rfl ?_ | refine jeq.jk rfl rfl ?_)
    intro J55 j55;refine L.val (x_or rfl j55) rfl ?_;refine L.nil (thn_n (W.cond (b:=_) rfl (fun g59=>?_) (fun g59=>?_)))
    ·have h59:=g59;have hc:T.bad=true∨(encI l).2≠0∨(encI l).1≠s:=by
       simp only [Bool.or_eq_true,Bool.not_eq_true',decide_eq_false_iff_not,beq_eq_false_iff_ne] at g59;rcases g59 with (e | e) | e
       · exact .inl e
       · exact .inr (.inl e)
       · exact .inr (.inr e)
     refine W.seq (W.region (L.val (x_as (v:=.slice _ _ _) rfl) rfl ?_));refine L.val (x_as (v:=.int _ _) rfl) rfl ?_;refine L.nil (thn_n (W.ret (thn_r (fin_mk (.inr rfl) ?_))));rw [hD,if_pos hc];exact ⟨⟨_,rfl,RecsAt.nil om_⟩,hB⟩
    ·have h59:=g59;have hc:¬ (T.bad=true∨(encI l).2≠0∨(encI l).1≠s):=by
       simp only [Bool.or_eq_false_iff,Bool.not_eq_false',decide_eq_true_eq,beq_iff_eq] at g59;rintro (e | e | e)
       · rw [g59.1.1] at e;cases e
       · exact e g59.1.2
       · exact e g59.2
     refine W.skip (thn_n (W.seq (W.region (L.val (x_mv (v:=.slice _ _ _) rfl) rfl ?_))));refine L.val (x_as (v:=.slice _ _ _) rfl) rfl ?_;refine L.val (x_as (v:=.int _ _) rfl) rfl ?_;refine L.nil (thn_n (W.ret (fin_mk (.inr rfl) ?_)));rw [hD,if_neg hc];exact ⟨⟨_,rfl,hits.mono (fun j _ h=>by have h:j<_:=h;show j<_;omega)⟩,hB⟩
end Go.Gx
namespace Go.Proofs
open Go.Shelf
def Tryz.lays156_ren:Go.Shelf.Ren:=⟨fun | 156=>93 | 165=>107 | 166=>24 | 169=>28 | 240=>48 | 241=>123 | 276=>77 | 277=>133 | n=>n,fun | 31=>38 | 9=>9 | 3=>3 | 4=>4 | 0=>0 | 20=>20 | 72=>53 | 76=>56 | 70=>51 | 37=>47 | 75=>55 | 127=>83 | 164=>104 | 5=>5 | 80=>62 | n=>n,fun | n=>n⟩
theorem Tryz.lays156:Go.Proofs.Lays.n156 Tryz.prog Tryz.lays156_ren:={
  mixed:=by kernel_rfl
  f156:=Tryz.func93.trans (congrArg some (by kernel_rfl))
  f165:=Tryz.func107.trans (congrArg some (by kernel_rfl))
  f166:=Tryz.func24.trans (congrArg some (by kernel_rfl))
  f169:=Tryz.func28.trans (congrArg some (by kernel_rfl))
  f240:=Tryz.func48.trans (congrArg some (by kernel_rfl))
  f241:=Tryz.func123.trans (congrArg some (by kernel_rfl))
  f276:=Tryz.func77.trans (congrArg some (by kernel_rfl))
  f277:=Tryz.func133.trans (congrArg some (by kernel_rfl))
  t0:=Tryz.underlying0
  a0:=Tryz.isAgg0
  z0:=Tryz.sizeOf0
  v0:=Tryz.zeroValue0
  t3:=Tryz.underlying3
  a3:=Tryz.isAgg3
  z3:=Tryz.sizeOf3
  v3:=Tryz.zeroValue3
  t4:=Tryz.underlying4
  a4:=Tryz.isAgg4
  z4:=Tryz.sizeOf4
  v4:=Tryz.zeroValue4
  t9:=Tryz.underlying9
  a9:=Tryz.isAgg9
  z9:=Tryz.sizeOf9
  v9:=Tryz.zeroValue9
  t20:=Tryz.underlying20
  a20:=Tryz.isAgg20
  z20:=Tryz.sizeOf20
  v20:=Tryz.zeroValue20
  t31:=Tryz.underlying38
  a31:=Tryz.isAgg38
  z31:=Tryz.sizeOf38
  v31:=Tryz.zeroValue38
  t37:=Tryz.underlying47
  a37:=Tryz.isAgg47
  z37:=Tryz.sizeOf47
  v37:=Tryz.zeroValue47
  t70:=Tryz.underlying51
  a70:=Tryz.isAgg51
  z70:=Tryz.sizeOf51
  v70:=Tryz.zeroValue51
  t72:=Tryz.underlying53
  a72:=Tryz.isAgg53
  z72:=Tryz.sizeOf53
  v72:=Tryz.zeroValue53
  t75:=Tryz.underlying55
  a75:=Tryz.isAgg55
  z75:=Tryz.sizeOf55
  v75:=Tryz.zeroValue55
  t76:=Tryz.underlying56
  a76:=Tryz.isAgg56
  z76:=Tryz.sizeOf56
  v76:=Tryz.zeroValue56
  t127:=Tryz.underlying83
  a127:=Tryz.isAgg83
  z127:=Tryz.sizeOf83
  v127:=Tryz.zeroValue83
  t164:=Tryz.underlying104
  a164:=Tryz.isAgg104
  z164:=Tryz.sizeOf104
  v164:=Tryz.zeroValue104 }
theorem Tryz.Builder_Extra_156:Builder.Extra Tryz.prog Tryz.lays156_ren:={
  sizeBuilder:=by kernel_rfl
  liesBuilder:=by kernel_rfl
  t5:=Tryz.underlying5
  a5:=Tryz.isAgg5
  z5:=Tryz.sizeOf5
  v5:=Tryz.zeroValue5
  infoByte:=by kernel_rfl
  cellsByte:=by kernel_rfl
  sizeByte:=by kernel_rfl
  neB5:=by decide }
open Go.RowKit in
theorem Tryz.strings_Join_none (a:Option Addr) (c:Nat) (sep:ByteArray) (w:World):
    Calls Tryz.prog 93 #[.slice a 0 c,.string sep] w fun e w'=>e=.returned (.string ⟨#[]⟩)∧w'=w:=Any.strings_Join_none Tryz.lays156 Tryz.Builder_Extra_156 a c sep w
open Go.RowKit in
theorem Tryz.strings_Join (bk o c:Nat) (xs:List ByteArray) (sep:ByteArray) (w:World) (hcells:∀ (j:Nat) x,xs[j]? = some x→w.cell? ⟨bk,o+j,none⟩=some (.string x)) (hbk:bk<w.heap.size) (hN:xs.length≤140737488355328) (hcap:xs.length≤c) (hlen:(Lib.join (xs.map (·.data.toList)) sep.data.toList).length≤140737488355328):
    Calls Tryz.prog 93 #[.slice (some ⟨bk,o,none⟩) xs.length c,.string sep] w fun e w'=>e=.returned (.string ⟨(Lib.join (xs.map (·.data.toList)) sep.data.toList).toArray⟩)∧Below w.heap.size w w':=Any.strings_Join Tryz.lays156 Tryz.Builder_Extra_156 bk o c xs sep w hcells hbk hN hcap hlen
end Go.Proofs
