/- Items read: the document's. Conditions: none. -/
import Derived.Test.YtcncoaabbedhfaaGreatCcIfH
import Derived.Test.YtcncoaabbedhfaaGreatCcText
namespace Go.Gx
open Go.Proofs
theorem kifl_ag41:aggT Tryz.prog 41 5=true:=by kernel_rfl
theorem kifl_ag43:aggT Tryz.prog 43 7=true:=by kernel_rfl
theorem kifl_el43:elT Tryz.prog 43 7=true:=by kernel_rfl
theorem kifl_en12:Go.Proofs.Enters Tryz.prog 12:=Go.Proofs.enters_of Tryz.func12 kr_ rfl
theorem kifl_en37:Go.Proofs.Enters Tryz.prog 37:=Go.Proofs.enters_of Tryz.func37 kr_ rfl
theorem kifl_en38:Go.Proofs.Enters Tryz.prog 38:=Go.Proofs.enters_of Tryz.func38 kr_ rfl
theorem kifl_en39:Go.Proofs.Enters Tryz.prog 39:=Go.Proofs.enters_of Tryz.func39 kr_ rfl
theorem kifl_fo43_2:fieldOff Tryz.prog 43 2=some 2:=by kernel_rfl
theorem kifl_si43:structInfo Tryz.prog 43=some ([(0,1),(1,1),(2,5)],[Value.int .i64 0,S [],Value.int .i64 0,S [],S [],Value.slice none 0 0,Value.slice none 0 0]):=by kernel_rfl
theorem kifl_zr41:(Tryz.prog.info? 41).bind (·.zero)=some (Value.agg [Value.int .i64 0,S [],S [],Value.slice none 0 0,Value.slice none 0 0].toArray):=by kernel_rfl
theorem kifl_zr43:(Tryz.prog.info? 43).bind (·.zero)=some (Value.agg [Value.int .i64 0,S [],Value.int .i64 0,S [],S [],Value.slice none 0 0,Value.slice none 0 0].toArray):=by kernel_rfl
theorem rItems_step {s:Str} {n i a:Nat} (h:i<n) {l:List It} {x:It × Nat} (hx:rItem s a=some x):((rItems s (n - i) a).map fun y=>(l++y.1,y.2))=(rItems s (n - (i+1)) x.2).map fun y=>(l++[x.1]++y.1,y.2):=by
  rw [show n - i=n - (i+1)+1 by omega,rItems,hx,Option.bind_some,Option.map_map];congr 1;funext y;simp
theorem rItems_fail {s:Str} {n i a:Nat} (h:i<n) (hx:rItem s a=none):rItems s (n - i) a=none:=by
  rw [show n - i=n - (i+1)+1 by omega,rItems,hx];rfl
theorem ItC.carryR {A R:Nat→Prop} {w w':World} {cs:List Value} {x:It} (h:ItC A w cs x) (g:Gr R w w') (hR:∀ j,R j→A j):ItC A w' cs x:=Car.carryR h g hR
theorem ItC.carry {A:Nat→Prop} {w w':World} {cs:List Value} {x:It} (h:ItC A w cs x) (g:Bel w w'):ItC A w' cs x:=Car.carry h g
theorem ItC.mono {A A':Nat→Prop} {w:World} {cs:List Value} {x:It} (h:ItC A w cs x) (hA:∀ b,b<w.heap.size→A' b→A b):ItC A' w cs x:=Car.mono h hA
noncomputable def decO (s:Str):Option (List It × Nat)→List It × Int
  | none=>([],160)
  | some y=>if encI y.1=(s,0) then (y.1,0) else ([],160)
theorem decR_O (s:Str):decR s=decO s ((smallN s 0 60).bind fun n=>rItems s n.1 n.2):=by
  unfold decR;cases (smallN s 0 60).bind fun n=>rItems s n.1 n.2 <;> rfl
set_option maxHeartbeats 1000000 in
theorem dec16 (s:Str) (hs:s.length≤1000000000) (w:World):
    Ret Tryz.prog 16 #[S s] w fun v w'=>(∃ u,v=.tuple #[u,.int .i64 (decR s).2]∧ItsAt (fun k=>k<w.heap.size) w' u (decR s).1)∧Bel w w':=by
  have hfail:∀ w',((smallN s 0 60).bind fun n=>rItems s n.1 n.2)=none→Bel w w'→((∃ u,Value.tuple #[.slice none 0 0,.int .i64 160]=.tuple #[u,.int .i64 (decR s).2]∧ItsAt (fun k=>k<w.heap.size) w' u (decR s).1)∧Bel w w'):=fun w' h hB=>by
    have e:decR s=([],160):=by rw [decR_O,h];rfl
    rw [e];exact ⟨⟨_,rfl,RecsAt.nil om_⟩,hB⟩
  refine ret_of_W Tryz.func16 rfl (Nat.le_of_ble_eq_true rfl) (res2 rfl) ?_;have hB:=Gr.refl (fun _=>False) w;refine W.seq (W.region (L.val (x_as (v:=.slice _ _ _) rfl) rfl ?_));refine L.val (x_as (v:=.int _ _) rfl) rfl ?_;refine L.nil (thn_n (W.seq (W.region (L.val (x_mv (v:=S _) rfl) rfl ?_))));refine L.ret (x_call kifl_en37 rfl) rfl (small16 s 0 60 (Nat.zero_le _) hs om_ _) ?_;rintro _ w22 ⟨rfl,hw⟩;have hB:=hB.carry hw;refine L.val (x_mv (v:=_) rfl) rfl ?_;refine L.val (x_ext (v:=.int _ _) rfl rfl) rfl ?_;refine L.val (x_ext (v:=.int _ _) rfl rfl) rfl ?_;refine L.val (x_ext (v:=.bool _) rfl rfl) rfl ?_;refine L.val (x_as (v:=.int _ _) rfl) rfl ?_;refine L.val (x_as (v:=.int _ _) rfl) rfl ?_;refine L.val (x_as (v:=.bool _) rfl) rfl ?_;refine L.nil (thn_n (W.seq (W.seq (W.region (L.val (x_mv (v:=.bool _) rfl) rfl ?_)))));refine L.val (x_not rfl) rfl ?_;refine L.nil (thn_n (W.cond (b:=_) rfl (fun g27=>?_) (fun g27=>?_)))
  ·have h27:=(not_t g27);have hnone:((smallN s 0 60).bind fun n=>rItems s n.1 n.2)=none:=by
     cases hm:smallN s 0 60 with
     | none=>rfl
     | some m=>rw [hm] at h27;cases h27
   refine W.seq (W.region (L.val (x_as (v:=.slice _ _ _) rfl) rfl ?_));refine L.val (x_as (v:=.int _ _) rfl) rfl ?_;refine L.nil (thn_n (W.ret (thn_r (fin_mk (.inr rfl) ?_))));exact hfail _ hnone hB
  ·have h27:=(not_f g27);obtain ⟨m,hm⟩:=Option.isSome_iff_exists.1 h27;have hE:((smallN s 0 60).bind fun n=>rItems s n.1 n.2)=rItems s m.1 m.2:=by rw [hm];rfl
   rw [hE] at hfail;have hD:decR s=decO s (rItems s m.1 m.2):=by rw [decR_O,hE]
   rw [hm];simp only [Option.getD_some];obtain ⟨hm1,hm2⟩:=smallN_le hm;have hM0:rItems s m.1 m.2=(rItems s (m.1 - 0) m.2).map fun y=>(([]:List It)++y.1,y.2):=by
     rw [Nat.sub_zero];cases rItems s m.1 m.2 <;> rfl
   refine W.skip (thn_n (W.seq (W.region (L.val (x_as (v:=.slice _ _ _) rfl) rfl ?_))));refine L.nil (thn_n (W.seq (W.seq (W.region (L.val (x_as (v:=.int _ _) rfl) rfl ?_)))));refine L.nil (thn_n (W.block (W.loop (fun m' E w'=>∃ (i at':Nat) (vO:Value) (l:List It) (rows:List (List Value)),m'=m.1 - i∧E 0=S s∧E 4=.int .i64 (m.1:Nat)∧E 5=.int .i64 (at':Nat)∧E 7=vO∧E 8=.int .i64 (i:Nat)∧(i≤m.1)∧(Bel w w')∧(at'≤s.length)∧(l.length=i)∧(rItems s m.1 m.2=(rItems s (m.1 - i) at').map fun y=>(l++y.1,y.2))∧(Own w' w.heap.size 43 7 vO l.length rows.flatten)∧(RowsC ItC (AvP w.heap.size w' vO) w' rows l)) (m.1) ?_ ?_)))
   ·exact ⟨0,_,.slice none 0 0,[],[],by omega,vi_,vi_,vi_,vi_,vi_,ao_,ao_,ao_,(by rfl),(by exact hM0),(by exact own_nil),(by exact RowsC.nil)⟩
   ·rintro _ E wL28 ⟨i,at',vO,l,rows,em,e0,e4,e5,e7,e8,hi,hB,hat,hll,hM,hO,hR⟩;rw [upd_self e0,upd_self e4,upd_self e5,upd_self e7,upd_self e8];refine W.seq (W.seq (W.region ?_));obtain ⟨aO,cO,eO,-⟩:=own_shape hO;subst eO;have hqO:=fun j hj=>Own.lt hO (j:=j) hj
    have hsL:=hB.size;refine L.val (x_mv (v:=.int _ _) rfl) rfl ?_;refine L.val (x_mv (v:=.int _ _) rfl) rfl ?_;refine L.val (x_lss rfl rfl) rfl ?_;refine L.nil (thn_n (W.cond (b:=_) rfl (fun g30=>?_) (fun g30=>?_)))
    ·have h30:=of_decide_eq_true g30;have him:i<m.1:=by omega
     refine W.skip (thn_n (W.seq (W.block (W.seq (W.region (L.val (x_mv (v:=S _) rfl) rfl ?_))))));refine L.val (x_mv (v:=.int _ _) rfl) rfl ?_;refine L.ret (x_call kifl_en37 rfl) rfl (small16 s at' 3 hat hs om_ _) ?_;rintro _ w36 ⟨rfl,hw⟩;have hB:=hB.carry hw;have hO:=hO.carry hw;have hR:=hR.carry hw;have hs36:=hw.size;refine L.val (x_mv (v:=_) rfl) rfl ?_;refine L.val (x_ext (v:=.int _ _) rfl rfl) rfl ?_;refine L.val (x_ext (v:=.int _ _) rfl rfl) rfl ?_;refine L.val (x_ext (v:=.bool _) rfl rfl) rfl ?_;refine L.val (x_as (v:=.int _ _) rfl) rfl ?_;refine L.val (x_as (v:=.int _ _) rfl) rfl ?_;refine L.val (x_as (v:=.bool _) rfl) rfl ?_;refine L.nil (thn_n (W.seq (W.seq (W.region (L.val (x_mv (v:=.bool _) rfl) rfl ?_)))));refine L.val (x_not rfl) rfl ?_;refine L.nil (thn_n (W.cond (b:=_) rfl (fun g41=>?_) (fun g41=>?_)))
     ·have h41:=(not_t g41);have hnone:rItems s m.1 m.2=none:=by
        have hq:rItem s at'=none:=by
          unfold rItem;cases hk:smallN s at' 3 with
          | none=>rfl
          | some k=>rw [hk] at h41;cases h41
        rw [hM,rItems_fail him hq];rfl
      refine W.seq (W.region (L.val (x_as (v:=.slice _ _ _) rfl) rfl ?_));refine L.val (x_as (v:=.int _ _) rfl) rfl ?_;refine L.nil (thn_n (W.ret (thn_r (blk_r (thn_r (thn_r (blk_r (thn_r (fin_mk (.inr rfl) ?_)))))))));exact hfail _ hnone hB
     ·have h41:=(not_f g41);obtain ⟨k,hk⟩:=Option.isSome_iff_exists.1 h41;rw [hk];simp only [Option.getD_some];obtain ⟨hk1,hk2⟩:=smallN_le hk;refine W.skip (thn_n (W.seq (W.region (L.val (x_mv (v:=S _) rfl) rfl ?_))));refine L.val (x_mv (v:=.int _ _) rfl) rfl ?_;refine L.ret (x_call kifl_en38 rfl) rfl (takeText01 s k.2 hk2 hs _) ?_;rintro _ w45 ⟨rfl,hw⟩;have hB:=hB.carry hw;have hO:=hO.carry hw;have hR:=hR.carry hw;have hs45:=hw.size;refine L.val (x_mv (v:=_) rfl) rfl ?_;refine L.val (x_ext (v:=S _) rfl rfl) rfl ?_;refine L.val (x_ext (v:=.int _ _) rfl rfl) rfl ?_;refine L.val (x_ext (v:=.int _ _) rfl rfl) rfl ?_;refine L.val (x_as (v:=S _) rfl) rfl ?_;refine L.val (x_as (v:=.int _ _) rfl) rfl ?_;refine L.val (x_as (v:=.int _ _) rfl) rfl ?_;refine L.nil (thn_n (W.seq (W.seq (W.region (L.val (x_mv (v:=.int _ _) rfl) rfl ?_)))));refine L.val (x_neq rfl rfl) rfl ?_;refine L.nil (thn_n (W.cond (b:=_) rfl (fun g50=>?_) (fun g50=>?_)))
      ·have h50:=dne_t g50;have he:(takeText s k.2).2.2≠0:=h50;have hnone:rItems s m.1 m.2=none:=by
         have hq:rItem s at'=none:=by unfold rItem;rw [hk,Option.bind_some,tText_none he];rfl
         rw [hM,rItems_fail him hq];rfl
       refine W.seq (W.region (L.val (x_as (v:=.slice _ _ _) rfl) rfl ?_));refine L.val (x_as (v:=.int _ _) rfl) rfl ?_;refine L.nil (thn_n (W.ret (thn_r (blk_r (thn_r (thn_r (blk_r (thn_r (fin_mk (.inr rfl) ?_)))))))));exact hfail _ hnone hB
      ·have h50:=dne_f g50;have he:(takeText s k.2).2.2=0:=by simpa using h50
       have hn2:=(takeText_le he).2.1;have hn3:=takeText_len s k.2;have hrI:rItem s at'=if k.1=2 then some (⟨k.1,(takeText s k.2).1,default⟩,(takeText s k.2).2.1) else (pSh s 40 (takeText s k.2).2.1).map fun t=>(⟨k.1,(takeText s k.2).1,t.1⟩,t.2):=by
         unfold rItem;rw [hk,Option.bind_some,tText_some he,Option.bind_some]
       obtain ⟨nm,hnm⟩:∃ z,z=takeText s k.2:=⟨_,rfl⟩;rw [← hnm] at hrI hn2 hn3 ⊢;refine W.skip (thn_n (W.seq (W.region (L.val (x_mv (v:=.int _ _) rfl) rfl ?_))));refine L.val (x_mv (v:=S _) rfl) rfl ?_;refine L.val (x_build (cells:=[.int _ _,S _,.int _ _,S _,S _,.slice _ _ _,.slice _ _ _]) kifl_si43 rfl rfl) rfl ?_;refine L.alloc (cs:=[Value.int .i64 0,S [],Value.int .i64 0,S [],S [],Value.slice none 0 0,Value.slice none 0 0]) kifl_zr43 rfl rfl (fun w14 bx14 hw hz14=>?_);have hB:=hB.carry hw;have hO:=hO.carry hw;have hR:=hR.carry hw;have hs45b:=hB.size;have hz14b:=hz14;refine L.setRow kifl_ag43 rfl rfl bx14 rfl rfl (by simp [Value.oneCell',S]) (fun wl53 bx14 hw hzl53=>?_);have hsz:=hB.size;have hB:=hB.set hw om_;have hO:=Own.carryR hO hw (fun j hj e=>by have e:j=_:=e;have h1:=hqO j hj;omega);have hR:=hR.carryR hw (fun j e=>.inr (.inr (by have e:j=_:=e;omega)));have hlt53:=bx14.lt;refine L.nil (thn_n (W.seq (W.seq (W.region (L.val (x_mv (v:=.int _ _) rfl) rfl ?_)))));refine L.val (x_neq rfl rfl) rfl ?_;refine L.nil (thn_n (W.cond (b:=_) rfl (fun g55=>?_) (fun g55=>?_)))
       ·have h55:=dne_t g55;have hk2n:k.1≠2:=by omega
        rw [if_neg hk2n] at hrI;refine W.seq (W.region (L.val (x_mv (v:=S _) rfl) rfl ?_));refine L.val (x_mv (v:=.int _ _) rfl) rfl ?_;refine L.ret (x_call kifl_en39 rfl) rfl (shape16 s hs 41 40 om_ om_ nm.2.1 _ hn2) ?_;rintro _ w59 ⟨⟨cs59,rfl,hz59,ht⟩,hw⟩;have hB:=hB.carry hw;have hO:=hO.carry hw;have hR:=hR.carry hw;have bx14:=bx14.carry hw;have hs59:=hw.size;have hc59:cs59.length=5∧∀ u∈cs59,u.oneCell'=true:=by
          cases hq:pSh s 40 nm.2.1 with
          | none=>rw [hz59 hq];exact ⟨rfl,by simp [zeroL5,Value.oneCell',S]⟩
          | some x=>exact ⟨(ht x hq).len,(ht x hq).one⟩
        have ht:ShO (fun j=>j<wl53.heap.size∨w59.heap.size≤j) w59 cs59 (pSh s 40 nm.2.1):=ht.mono (fun j hj h=>by
          rcases h with h | h
          · exact h
          · omega)
        refine L.val (x_mv (v:=_) rfl) rfl ?_;refine L.val (x_ext (v:=_) rfl rfl) rfl ?_;refine L.val (x_ext (v:=.int _ _) rfl rfl) rfl ?_;refine L.val (x_ext (v:=.bool _) rfl rfl) rfl ?_;refine L.alloc (cs:=[Value.int .i64 0,S [],S [],Value.slice none 0 0,Value.slice none 0 0]) kifl_zr41 rfl rfl (fun w15 bx15 hw hz15=>?_);have hB:=hB.carry hw;have hO:=hO.carry hw;have hR:=hR.carry hw;have bx14:=bx14.carry hw;have ht:=ht.carry hw;refine L.setRow kifl_ag41 rfl rfl bx15 rfl hc59.1 hc59.2 (fun wl64 bx15 hw hzl64=>?_);have hsz:=hB.size;have hB:=hB.set hw om_;have hO:=Own.carryR hO hw (fun j hj e=>by have e:j=_:=e;have h1:=hqO j hj;omega);have hR:=hR.carryR hw (fun j e=>.inr (.inr (by have e:j=_:=e;omega)));have bx14:=bx14.carryR hw om_;have ht:=ht.carryR hw (fun j e=>by have e:j=_:=e;first | exact .inl om_ | exact .inr om_);refine L.val (x_as (v:=.int _ _) rfl) rfl ?_;refine L.val (x_as (v:=.bool _) rfl) rfl ?_;refine L.nil (thn_n (W.seq (W.seq (W.region (L.val (x_mv (v:=.bool _) rfl) rfl ?_)))));refine L.val (x_not rfl) rfl ?_;refine L.nil (thn_n (W.cond (b:=_) rfl (fun g64=>?_) (fun g64=>?_)))
        ·have h64:=(not_t g64);have hnone:rItems s m.1 m.2=none:=by
           have hq:rItem s at'=none:=by
             rw [hrI];cases hq:pSh s 40 nm.2.1 with
             | none=>rfl
             | some x=>rw [hq] at h64;cases h64
           rw [hM,rItems_fail him hq];rfl
         refine W.seq (W.region (L.val (x_as (v:=.slice _ _ _) rfl) rfl ?_));refine L.val (x_as (v:=.int _ _) rfl) rfl ?_;refine L.nil (thn_n (W.ret (thn_r (thn_r (blk_r (thn_r (thn_r (blk_r (thn_r (fin_mk (.inr rfl) ?_))))))))));exact hfail _ hnone hB
        ·have h64:=(not_f g64);obtain ⟨x,hx⟩:=Option.isSome_iff_exists.1 h64;rw [hx] at hrI ⊢;have hrI:rItem s at'=some (⟨k.1,nm.1,x.1⟩,x.2):=hrI;simp only [Option.map_some,Option.getD_some];have hx2:=pSh_le _ _ _ hx;have ht:ShC (fun j=>j<wl53.heap.size∨w59.heap.size≤j) wl64 cs59 x.1:=ht x hx;have hs64:=hB.size;refine W.skip (thn_n (W.seq (W.region (L.val (x_ldn (vs:=cs59) kifl_ag41 rfl hc59.1 (bx15.row hc59.1)) rfl ?_))));refine L.val (x_fa kifl_fo43_2 rfl) rfl ?_;refine L.setPart (o:=2) (k:=5) (new:=cs59) kifl_ag41 rfl rfl bx14 (Nat.le_refl 7) hc59.1 hc59.2 (fun wl73 bx14 hw hzl73=>?_);have bx14:Box wl73 w45.heap.size 43 ([.int .i64 (k.1:Nat),S nm.1]++cs59):=by simpa using bx14
         have hB:=hB.set hw om_;have hO:=Own.carryR hO hw (fun j hj e=>by have e:j=_:=e;have h1:=hqO j hj;omega);have hR:=hR.carryR hw (fun j e=>.inr (.inr (by have e:j=_:=e;omega)));have ht:=ht.carryR hw (fun j e=>.inl (by have e:j=_:=e;omega));obtain ⟨x0,hx0⟩:∃ x0:It,x0=⟨k.1,nm.1,x.1⟩:=⟨_,rfl⟩;obtain ⟨csx,hcx⟩:∃ c:List Value,c=[.int .i64 (k.1:Nat),S nm.1]++cs59:=⟨_,rfl⟩;obtain ⟨sq,hsq⟩:∃ sq,sq=w59.heap.size:=⟨_,rfl⟩;have hsq1:wl53.heap.size≤sq∧sq≤wl73.heap.size:=by omega
         have hcl:csx.length=7:=by rw [hcx,List.length_append,hc59.1];rfl
         have hc1:∀ u∈csx,u.oneCell'=true:=by
           rw [hcx];intro u hu;rcases List.mem_append.1 hu with hu | hu
           · simp only [List.mem_cons,List.not_mem_nil,or_false] at hu;rcases hu with rfl | rfl <;> rfl
           · exact hc59.2 u hu
         have hix:ItC (fun j=>j<wl53.heap.size∨sq≤j) wl73 csx x0:=by
           rw [hcx,hx0,hsq];exact ⟨cs59,rfl,ht,by show nm.1.length≤_;omega⟩
         have hit:rItem s at'=some (x0,x.2):=by rw [hx0];exact hrI
         have hM2:=hM;rw [rItems_step him hit] at hM2;rw [← hcx] at bx14;refine L.nil (thn_n (W.region (L.val (x_mv (v:=.int _ _) rfl) rfl ?_)));refine L.val (x_as (v:=.int _ _) rfl) rfl ?_;refine L.nil (thn_n (W.seq (W.region (L.val (x_mv (v:=.slice _ _ _) rfl) rfl ?_))));refine L.val (x_ldn (vs:=csx) kifl_ag43 rfl hcl (bx14.row hcl)) rfl ?_;refine L.bs (sz:=7) (cells:=csx) Tryz.underlying22 kifl_el43 rfl (by show (partsOk 7 0 [(0,Value.agg csx.toArray)] && decide ([((0:Nat),Value.agg csx.toArray)].length=1) && decide (0<1) && decide (1 * 7≤16777216))=true;simp [partsOk,hcl,Value.cells]) (by show ([((0:Nat),Value.agg csx.toArray)].map fun x=>x.2.cells.toList).flatten=csx;simp [Value.cells]) rfl (fun w70 bx70 hw hz70=>?_);have hB:=hB.carry hw;have hO:=hO.carry hw;have hR:=hR.carry hw;have bx14:=bx14.carry hw;have hix:=hix.carry hw;have hz70b:=hz70;have hs70:=hB.size;refine L.appendN (m:=1) Tryz.underlying22 kifl_el43 rfl rfl rfl hO (by rw [hcl]) (holdsN_box bx70) hc1 om_ om_ (fun v71 w71 hO71 hg hob71=>?_);obtain ⟨a71,c71,e71,-⟩:=own_shape hO71;subst e71;have hsg:=hg.size;have hB:=hB.step hg (fun i hi e=>by have:=(hqO _ e).1;omega);have hov:(Value.slice a71 (l.length+1) c71).ownBlock=(Value.slice aO l.length cO).ownBlock∨∀ k,some k=(Value.slice a71 (l.length+1) c71).ownBlock→w70.heap.size≤k:=
           hob71.imp id (fun h k e=>by have:=Option.some.inj (e.trans h);omega)
         have hO2:Own w71 w.heap.size 43 7 (.slice a71 (l.length+1) c71) (l++[x0]).length (rows++[csx]).flatten:=by
           rw [List.length_append,List.flatten_append];simpa using hO71
         have hR2:RowsC ItC (AvP w.heap.size w71 (.slice a71 (l.length+1) c71)) w71 (rows++[csx]) (l++[x0]):=by
           refine RowsC.append ((hR.carryR hg (fun j e=>.inr (.inl e))).mono (fun j _ h=>avp_step om_ (hov.imp id (fun h k e=>by have:=h k e;omega)) h)) (RowsC.one ((hix.carryR hg (fun j e=>.inl (by have:=(hqO j e).2;omega))).mono (fun j _ h=>?_)));rcases h with h | h | h
           · exact .inl om_
           · rcases hov with e | e
             · exact .inl (by have:=(hqO j (h.trans e)).2;omega)
             · exact .inr (by have:=e j h;omega)
           · exact .inr om_
         refine L.val (x_as (v:=.slice _ _ _) rfl) rfl ?_;refine L.nil (thn_n (W.region (L.val (x_mv (v:=.int _ _) rfl) rfl ?_)));refine L.val (x_as (v:=.int _ _) rfl) rfl ?_;refine L.nil (blk_n (thn_n (W.region (L.val (x_mv (v:=.int _ _) rfl) rfl ?_))));refine L.val (x_add rfl rfl (wr64 om_)) rfl ?_;refine L.val (x_as (v:=.int _ _) rfl) rfl ?_;refine L.nil (thn_n ⟨rfl,?_⟩);refine ⟨_,?_,i+1,_,_,l++[x0],rows++[csx],rfl,vi_,vi_,vi_,vi_,vi_,ao_,ao_,ao_,(by rw [List.length_append,hll];rfl),(by exact hM2),(by exact hO2),(by exact hR2)⟩;omega
       ·have h55:=dne_f g55;have hk2e:k.1=2:=by omega
        rw [if_pos hk2e] at hrI;obtain ⟨x0,hx0⟩:∃ x0:It,x0=⟨k.1,nm.1,default⟩:=⟨_,rfl⟩;obtain ⟨csx,hcx⟩:∃ c:List Value,c=[.int .i64 (k.1:Nat),S nm.1,.int .i64 0,S [],S [],.slice none 0 0,.slice none 0 0]:=⟨_,rfl⟩;obtain ⟨sq,hsq⟩:∃ sq,sq=wl53.heap.size:=⟨_,rfl⟩;have hsq1:wl53.heap.size≤sq∧sq≤wl53.heap.size:=by omega
        have hcl:csx.length=7:=by rw [hcx];rfl
        have hc1:∀ u∈csx,u.oneCell'=true:=by rw [hcx];simp [Value.oneCell',S]
        have hix:ItC (fun j=>j<wl53.heap.size∨sq≤j) wl53 csx x0:=by
          rw [hcx,hx0];exact ⟨_,rfl,sh_zero,by show nm.1.length≤_;omega⟩
        have hit:rItem s at'=some (x0,nm.2.1):=by rw [hx0];exact hrI
        have hM2:=hM;rw [rItems_step him hit] at hM2;rw [← hcx] at bx14;have hx2:=hn2;refine W.skip (thn_n (W.seq (W.region (L.val (x_mv (v:=.slice _ _ _) rfl) rfl ?_))));refine L.val (x_ldn (vs:=csx) kifl_ag43 rfl hcl (bx14.row hcl)) rfl ?_;refine L.bs (sz:=7) (cells:=csx) Tryz.underlying22 kifl_el43 rfl (by show (partsOk 7 0 [(0,Value.agg csx.toArray)] && decide ([((0:Nat),Value.agg csx.toArray)].length=1) && decide (0<1) && decide (1 * 7≤16777216))=true;simp [partsOk,hcl,Value.cells]) (by show ([((0:Nat),Value.agg csx.toArray)].map fun x=>x.2.cells.toList).flatten=csx;simp [Value.cells]) rfl (fun w70 bx70 hw hz70=>?_);have hB:=hB.carry hw;have hO:=hO.carry hw;have hR:=hR.carry hw;have bx14:=bx14.carry hw;have hix:=hix.carry hw;have hz70b:=hz70;have hs70:=hB.size;refine L.appendN (m:=1) Tryz.underlying22 kifl_el43 rfl rfl rfl hO (by rw [hcl]) (holdsN_box bx70) hc1 om_ om_ (fun v71 w71 hO71 hg hob71=>?_);obtain ⟨a71,c71,e71,-⟩:=own_shape hO71;subst e71;have hsg:=hg.size;have hB:=hB.step hg (fun i hi e=>by have:=(hqO _ e).1;omega);have hov:(Value.slice a71 (l.length+1) c71).ownBlock=(Value.slice aO l.length cO).ownBlock∨∀ k,some k=(Value.slice a71 (l.length+1) c71).ownBlock→w70.heap.size≤k:=
          hob71.imp id (fun h k e=>by have:=Option.some.inj (e.trans h);omega)
        have hO2:Own w71 w.heap.size 43 7 (.slice a71 (l.length+1) c71) (l++[x0]).length (rows++[csx]).flatten:=by
          rw [List.length_append,List.flatten_append];simpa using hO71
        have hR2:RowsC ItC (AvP w.heap.size w71 (.slice a71 (l.length+1) c71)) w71 (rows++[csx]) (l++[x0]):=by
          refine RowsC.append ((hR.carryR hg (fun j e=>.inr (.inl e))).mono (fun j _ h=>avp_step om_ (hov.imp id (fun h k e=>by have:=h k e;omega)) h)) (RowsC.one ((hix.carryR hg (fun j e=>.inl (by have:=(hqO j e).2;omega))).mono (fun j _ h=>?_)));rcases h with h | h | h
          · exact .inl om_
          · rcases hov with e | e
            · exact .inl (by have:=(hqO j (h.trans e)).2;omega)
            · exact .inr (by have:=e j h;omega)
          · exact .inr om_
        refine L.val (x_as (v:=.slice _ _ _) rfl) rfl ?_;refine L.nil (thn_n (W.region (L.val (x_mv (v:=.int _ _) rfl) rfl ?_)));refine L.val (x_as (v:=.int _ _) rfl) rfl ?_;refine L.nil (blk_n (thn_n (W.region (L.val (x_mv (v:=.int _ _) rfl) rfl ?_))));refine L.val (x_add rfl rfl (wr64 om_)) rfl ?_;refine L.val (x_as (v:=.int _ _) rfl) rfl ?_;refine L.nil (thn_n ⟨rfl,?_⟩);refine ⟨_,?_,i+1,_,_,l++[x0],rows++[csx],rfl,vi_,vi_,vi_,vi_,vi_,ao_,ao_,ao_,(by rw [List.length_append,hll];rfl),(by exact hM2),(by exact hO2),(by exact hR2)⟩;omega
    ·have h30:=dlt_f g30;have hii:i=m.1:=by omega
     rw [hii,Nat.sub_self,rItems,Option.map_some,List.append_nil] at hM;have hits:ItsAt (fun k=>k<w.heap.size) wL28 (.slice aO l.length cO) l:=hR.doneB (base:=w.heap.size) (e:=43) hO om_ (fun j h=>.inl h) (fun j h1 h2=>by have:=(hqO j h1).1;have h2:j<_:=h2;omega);rw [hM] at hD;refine W.exit (thn_x (thn_x (blk_hit ?_)));refine thn_n (W.seq (W.region (L.val (x_mv (v:=.slice _ _ _) rfl) rfl ?_)));refine L.ret (x_call kifl_en12 rfl) rfl (enc16 _ _ l _ hits) ?_;rintro _ w75 ⟨rfl,hw⟩;have hB:=hB.carry hw;have hits:=hits.carry hw;refine L.val (x_mv (v:=_) rfl) rfl ?_;refine L.val (x_ext (v:=S _) rfl rfl) rfl ?_;refine L.val (x_ext (v:=.int _ _) rfl rfl) rfl ?_;refine L.val (x_as (v:=S _) rfl) rfl ?_;refine L.val (x_as (v:=.int _ _) rfl) rfl ?_;refine L.nil (thn_n (W.seq (W.seq (W.region (L.val (x_mv (v:=.int _ _) rfl) rfl ?_)))));refine L.val (x_neq rfl rfl) rfl ?_;refine L.val (x_mv (v:=.bool _) rfl) rfl ?_;refine' L.group0 3 81 83 83 80 false rfl ?_ ?_ ?_;rotate_left 1
     ·intro g80;have h80:=dne_f g80;refine L.gyes' (dj:=80) (b:=_) rfl rfl g80 ?_;refine L.val (x_mv (v:=S _) rfl) rfl ?_;refine L.gyes' (dj:=80) (b:=_) rfl rfl g80 ?_;refine L.val (x_mv (v:=S _) rfl) rfl ?_;refine L.gyes' (dj:=80) (b:=_) rfl rfl g80 ?_;refine L.val (x_nes rfl rfl) rfl ?_;refine L.nil (thn_n ⟨rfl,rfl,?_,rfl⟩);repeat (first | exact jeq.refl _ _ _ | refine jeq.upd rfl ?_ | refine jeq.jk rfl rfl ?_)
     ·intro g80;(iterate 3 refine L.gno (dj:=80) (b:=_) rfl rfl g80 rfl ?_);refine L.nil (thn_n ⟨rfl,rfl,?_⟩);repeat (first | exact jeq.refl _ _ _ | refine jeq.upd rfl ?_ | refine jeq.jk rfl rfl ?_)
     intro J80 j80;refine L.val (x_or rfl j80) rfl ?_;refine L.nil (thn_n (W.cond (b:=_) rfl (fun g84=>?_) (fun g84=>?_)))
     ·have h84:=g84;have hne:¬ encI l=(s,0):=fun e=>by rw [e] at g84;simp at g84
      refine W.seq (W.region (L.val (x_as (v:=.slice _ _ _) rfl) rfl ?_));refine L.val (x_as (v:=.int _ _) rfl) rfl ?_;refine L.nil (thn_n (W.ret (thn_r (fin_mk (.inr rfl) ?_))));rw [hD];unfold decO;dsimp only;rw [if_neg hne];exact ⟨⟨_,rfl,RecsAt.nil om_⟩,hB⟩
     ·have h84:=g84;have heq:encI l=(s,0):=by
        simp only [Bool.or_eq_false_iff,Bool.not_eq_false',decide_eq_true_eq] at g84;exact Prod.ext (by simpa using g84.2) g84.1
      refine W.skip (thn_n (W.seq (W.region (L.val (x_mv (v:=.slice _ _ _) rfl) rfl ?_))));refine L.val (x_as (v:=.slice _ _ _) rfl) rfl ?_;refine L.val (x_as (v:=.int _ _) rfl) rfl ?_;refine L.nil (thn_n (W.ret (fin_mk (.inr rfl) ?_)));rw [hD];unfold decO;dsimp only;rw [if_pos heq];exact ⟨⟨_,rfl,hits⟩,hB⟩
end Go.Gx
namespace Go.Gx
open Go.Proofs
theorem kifm_en62:Go.Proofs.Enters Tryz.prog 62:=Go.Proofs.enters_of Tryz.func62 kr_ rfl
theorem kifm_en63:Go.Proofs.Enters Tryz.prog 63:=Go.Proofs.enters_of Tryz.func63 kr_ rfl
theorem kifm_fo67_0:fieldOff Tryz.prog 67 0=some 0:=by kernel_rfl
theorem kifm_fo67_1:fieldOff Tryz.prog 67 1=some 1:=by kernel_rfl
theorem kifm_fo67_3:fieldOff Tryz.prog 67 3=some 3:=by kernel_rfl
theorem kifm_mixed:Tryz.prog.follows .mixedOrders=true:=by kernel_rfl
theorem kifm_oc3:oneCellT Tryz.prog 3=true:=by kernel_rfl
theorem kifm_oc4:oneCellT Tryz.prog 4=true:=by kernel_rfl
theorem kifm_oc9:oneCellT Tryz.prog 9=true:=by kernel_rfl
theorem kifm_sz3:(Tryz.prog.info? 3).map (·.size)=some 1:=by kernel_rfl
theorem kifm_sz4:(Tryz.prog.info? 4).map (·.size)=some 1:=by kernel_rfl
def tkV (s:Str) (t:Tk):List Value:=[S s,.int .i64 (t.pos:Nat),.int .i64 (t.parts:Nat),.bool t.bad]
def TkAt (w:World) (b:Nat) (s:Str) (t:Tk):Prop:=Box w b 67 (tkV s t)
theorem TkAt.carryR {R:Nat→Prop} {w w':World} {b:Nat} {s:Str} {t:Tk} (h:TkAt w b s t) (g:Gr R w w') (hn:¬ R b):TkAt w' b s t:=Box.carryR h g hn
theorem TkAt.carry {w w':World} {b:Nat} {s:Str} {t:Tk} (h:TkAt w b s t) (g:Bel w w'):TkAt w' b s t:=Box.carry h g
theorem tkNum_pos {s:Str} {m:Nat} {t:Tk} (h:t.pos≤s.length):(tkNum s m t).2.pos≤s.length∧(tkNum s m t).2.parts=t.parts∧(tkNum s m t).1≤m∧(t.bad=true→(tkNum s m t).2.bad=true):=by
  unfold tkNum;split
  · exact ⟨h,rfl,Nat.zero_le _,fun _=>rfl⟩
  · rename_i h1
    simp only [not_or,Decidable.not_not,Nat.not_lt] at h1;exact ⟨(takeNum_le h1.2.1).2.1,rfl,h1.2.2,fun e=>absurd e h1.1⟩
theorem tkText_pos {s:Str} {t:Tk} (h:t.pos≤s.length):(tkText s t).2.pos≤s.length∧(tkText s t).2.parts=t.parts∧(tkText s t).1.length≤s.length∧(t.bad=true→(tkText s t).2.bad=true):=by
  unfold tkText;split
  · exact ⟨h,rfl,Nat.zero_le _,fun _=>rfl⟩
  · rename_i h1
    simp only [not_or,Decidable.not_not] at h1;exact ⟨(takeText_le h1.2).2.1,rfl,takeText_len _ _,fun e=>absurd e h1.1⟩
theorem number_t (s:Str) (hs:s.length≤1000000000) (b m:Nat) (hm:m≤1000) (t:Tk) (w:World) (h:TkAt w b s t) (hp:t.pos≤s.length):
    Ret Tryz.prog 34 #[.pointer (some ⟨b,0,none⟩),.int .i64 (m:Nat)] w fun v w'=>v=.int .i64 ((tkNum s m t).1:Nat)∧TkAt w' b s (tkNum s m t).2∧Gr (· = b) w w':=by
  have hlt:=takeNum_lt s t.pos;have hbx:Box w b 67 [S s,.int .i64 (t.pos:Nat),.int .i64 (t.parts:Nat),.bool t.bad]:=h;refine ret_of_W Tryz.func34 rfl (Nat.le_of_ble_eq_true rfl) (res1 rfl) ?_;have hG:=Gr.refl (· = b) w;refine W.seq (W.region (L.val (x_as (v:=.int _ _) rfl) rfl ?_));refine L.nil (thn_n (W.seq (W.drawB kifm_mixed kr_ ?_)));refine LQ.val (fun w hw=>x_mv (v:=.pointer _) rfl) rfl ?_;refine LQ.val (fun w hw=>x_nil rfl) rfl ?_;refine LQ.val (fun w hw=>x_fa kifm_fo67_0 rfl) rfl ?_;refine LQ.val (fun w hw=>x_ld (v:=S _) kifm_oc9 rfl (hw.keep (hbx.cell0 rfl))) rfl ?_;refine LQ.val (fun w hw=>x_mv (v:=.pointer _) rfl) rfl ?_;refine LQ.val (fun w hw=>x_nil rfl) rfl ?_;refine LQ.val (fun w hw=>x_fa kifm_fo67_1 rfl) rfl ?_;refine LQ.val (fun w hw=>x_ld (v:=.int _ _) kifm_oc3 rfl (hw.keep (hbx.cell0 rfl))) rfl ?_;refine LQ.ret (fun w=>x_call kifm_en62 rfl) (fun w hw=>Ret.mono (takeNum_ok s t.pos hp hs w) (fun _ _ h=>⟨h.1,Gr.trans hw h.2⟩)) rfl ?_;refine LQ.val (fun w hw=>x_mv (v:=_) rfl) rfl ?_;(iterate 3 refine LQ.val (fun w hw=>x_ext (v:=.int _ _) rfl rfl) rfl ?_);(iterate 3 refine LQ.val (fun w hw=>x_as (v:=.int _ _) rfl) rfl ?_);refine LQ.nil ?_;intro w9 hw;have hG:=hG.carry hw;have hbx:=hbx.carry hw;refine thn_n (W.seq (W.seq (W.region (L.val (x_mv (v:=.pointer _) rfl) rfl ?_))));refine L.val (x_nil rfl) rfl ?_;refine L.val (x_fa kifm_fo67_3 rfl) rfl ?_;refine L.val (x_ld (v:=.bool _) kifm_oc4 rfl (hbx.cell0 rfl)) rfl ?_;refine L.val (x_mv (v:=.bool _) rfl) rfl ?_;refine' L.group0 2 26 27 27 25 false rfl ?_ ?_ ?_;rotate_left 1
  ·intro g25;have h25:=g25;refine L.gyes' (dj:=25) (b:=_) rfl rfl g25 ?_;refine L.val (x_mv (v:=.int _ _) rfl) rfl ?_;refine L.gyes' (dj:=25) (b:=_) rfl rfl g25 ?_;refine L.val (x_neq rfl rfl) rfl ?_;refine L.nil (thn_n ⟨rfl,rfl,?_,rfl⟩);repeat (first | exact jeq.refl _ _ _ | refine jeq.upd rfl ?_ | refine jeq.jk rfl rfl ?_)
  ·intro g25;refine L.gno (dj:=25) (b:=_) rfl rfl g25 rfl ?_;refine L.gno (dj:=25) (b:=_) rfl rfl g25 rfl ?_;refine L.nil (thn_n ⟨rfl,rfl,?_⟩);repeat (first | exact jeq.refl _ _ _ | refine jeq.upd rfl ?_ | refine jeq.jk rfl rfl ?_)
  intro J25 j25;refine L.val (x_or rfl j25) rfl ?_;refine L.val (x_mv (v:=.bool _) rfl) rfl ?_;refine' L.group0 4 30 33 33 29 false rfl ?_ ?_ ?_;rotate_left 1
  ·intro g29;have h29:=g29;refine L.gyes' (dj:=29) (b:=_) rfl rfl g29 ?_;refine L.val (x_mv (v:=.int _ _) rfl) rfl ?_;refine L.gyes' (dj:=29) (b:=_) rfl rfl g29 ?_;refine L.val (x_mv (v:=.int _ _) rfl) rfl ?_;refine L.gyes' (dj:=29) (b:=_) rfl rfl g29 ?_;refine L.val (x_conv (k':=.u64) (by rw [Tryz.underlying3];rfl) Tryz.underlying59 rfl (wru64 om_)) rfl ?_;refine L.gyes' (dj:=29) (b:=_) rfl rfl g29 ?_;refine L.val (x_gtr rfl rfl) rfl ?_;refine L.nil (thn_n ⟨rfl,rfl,?_,rfl⟩);repeat (first | exact jeq.refl _ _ _ | refine jeq.upd rfl ?_ | refine jeq.jk rfl rfl ?_)
  ·intro g29;(iterate 4 refine L.gno (dj:=29) (b:=_) rfl rfl g29 rfl ?_);refine L.nil (thn_n ⟨rfl,rfl,?_⟩);repeat (first | exact jeq.refl _ _ _ | refine jeq.upd rfl ?_ | refine jeq.jk rfl rfl ?_)
  intro J29 j29;refine L.val (x_or rfl j29) rfl ?_;refine L.nil (thn_n (W.cond (b:=_) rfl (fun g34=>?_) (fun g34=>?_)))
  ·have h34:=g34;have hc:t.bad=true∨(takeNum s t.pos).2.2≠0∨m<(takeNum s t.pos).1:=by
     simp only [Bool.or_eq_true,Bool.not_eq_true',decide_eq_true_eq,decide_eq_false_iff_not] at g34;rcases g34 with (g | g) | g
     · exact .inl g
     · exact .inr (.inl g)
     · exact .inr (.inr om_)
   have hT:tkNum s m t=(0,⟨t.pos,t.parts,true⟩):=if_pos hc;refine W.seq (W.region (L.val (x_mv (v:=.pointer _) rfl) rfl ?_));refine L.val (x_nil rfl) rfl ?_;refine L.val (x_fa kifm_fo67_3 rfl) rfl ?_;refine L.set (v:=.bool _) kifm_sz4 rfl rfl rfl hbx rfl (fun wl35 hbx hw hzl35=>?_);have hG:=hG.into hw rfl;refine L.nil (thn_n (W.seq (W.region (L.val (x_as (v:=.int _ _) rfl) rfl ?_))));refine L.nil (thn_n (W.ret (thn_r (fin_mk (.inr rfl) ?_))));rw [hT];exact ⟨rfl,hbx,hG⟩
  ·have h34:=g34;have hc:¬ (t.bad=true∨(takeNum s t.pos).2.2≠0∨m<(takeNum s t.pos).1):=by
     simp only [Bool.or_eq_false_iff,Bool.not_eq_false',decide_eq_true_eq,decide_eq_false_iff_not] at g34;rintro (g | g | g)
     · rw [g34.1.1] at g;cases g
     · exact g g34.1.2
     · omega
   have hT:tkNum s m t=((takeNum s t.pos).1,⟨(takeNum s t.pos).2.1,t.parts,t.bad⟩):=if_neg hc;have hle:(takeNum s t.pos).1≤m:=by omega
   refine W.skip (thn_n (W.seq (W.region (L.val (x_mv (v:=.pointer _) rfl) rfl ?_))));refine L.val (x_mv (v:=.int _ _) rfl) rfl ?_;refine L.val (x_nil rfl) rfl ?_;refine L.val (x_fa kifm_fo67_1 rfl) rfl ?_;refine L.set (v:=.int _ _) kifm_sz3 rfl rfl rfl hbx rfl (fun wl41 hbx hw hzl41=>?_);have hG:=hG.into hw rfl;refine L.nil (thn_n (W.seq (W.region (L.val (x_mv (v:=.int _ _) rfl) rfl ?_))));refine L.val (x_conv (k':=.i64) (by rw [Tryz.underlying59];rfl) Tryz.underlying3 rfl (wr64 om_)) rfl ?_;refine L.val (x_as (v:=.int _ _) rfl) rfl ?_;refine L.nil (thn_n (W.ret (fin_mk (.inr rfl) ?_)));rw [hT];exact ⟨rfl,hbx,hG⟩
theorem text_t (s:Str) (hs:s.length≤1000000000) (b:Nat) (t:Tk) (w:World) (h:TkAt w b s t) (hp:t.pos≤s.length):
    Ret Tryz.prog 35 #[.pointer (some ⟨b,0,none⟩)] w fun v w'=>v=S (tkText s t).1∧TkAt w' b s (tkText s t).2∧Gr (· = b) w w':=by
  have hbx:Box w b 67 [S s,.int .i64 (t.pos:Nat),.int .i64 (t.parts:Nat),.bool t.bad]:=h;refine ret_of_W Tryz.func35 rfl (Nat.le_of_ble_eq_true rfl) (res1 rfl) ?_;have hG:=Gr.refl (· = b) w;refine W.seq (W.region (L.val (x_as (v:=S _) rfl) rfl ?_));refine L.nil (thn_n (W.seq (W.drawB kifm_mixed kr_ ?_)));refine LQ.val (fun w hw=>x_mv (v:=.pointer _) rfl) rfl ?_;refine LQ.val (fun w hw=>x_nil rfl) rfl ?_;refine LQ.val (fun w hw=>x_fa kifm_fo67_0 rfl) rfl ?_;refine LQ.val (fun w hw=>x_ld (v:=S _) kifm_oc9 rfl (hw.keep (hbx.cell0 rfl))) rfl ?_;refine LQ.val (fun w hw=>x_mv (v:=.pointer _) rfl) rfl ?_;refine LQ.val (fun w hw=>x_nil rfl) rfl ?_;refine LQ.val (fun w hw=>x_fa kifm_fo67_1 rfl) rfl ?_;refine LQ.val (fun w hw=>x_ld (v:=.int _ _) kifm_oc3 rfl (hw.keep (hbx.cell0 rfl))) rfl ?_;refine LQ.ret (fun w=>x_call kifm_en63 rfl) (fun w hw=>Ret.mono (takeText_ok s t.pos hp hs w) (fun _ _ h=>⟨h.1,Gr.trans hw h.2⟩)) rfl ?_;refine LQ.val (fun w hw=>x_mv (v:=_) rfl) rfl ?_;refine LQ.val (fun w hw=>x_ext (v:=S _) rfl rfl) rfl ?_;refine LQ.val (fun w hw=>x_ext (v:=.int _ _) rfl rfl) rfl ?_;refine LQ.val (fun w hw=>x_ext (v:=.int _ _) rfl rfl) rfl ?_;refine LQ.val (fun w hw=>x_as (v:=S _) rfl) rfl ?_;refine LQ.val (fun w hw=>x_as (v:=.int _ _) rfl) rfl ?_;refine LQ.val (fun w hw=>x_as (v:=.int _ _) rfl) rfl ?_;refine LQ.nil ?_;intro w7 hw;have hG:=hG.carry hw;have hbx:=hbx.carry hw;refine thn_n (W.seq (W.seq (W.region (L.val (x_mv (v:=.pointer _) rfl) rfl ?_))));refine L.val (x_nil rfl) rfl ?_;refine L.val (x_fa kifm_fo67_3 rfl) rfl ?_;refine L.val (x_ld (v:=.bool _) kifm_oc4 rfl (hbx.cell0 rfl)) rfl ?_;refine L.val (x_mv (v:=.bool _) rfl) rfl ?_;refine' L.group0 2 24 25 25 23 false rfl ?_ ?_ ?_;rotate_left 1
  ·intro g23;have h23:=g23;refine L.gyes' (dj:=23) (b:=_) rfl rfl g23 ?_;refine L.val (x_mv (v:=.int _ _) rfl) rfl ?_;refine L.gyes' (dj:=23) (b:=_) rfl rfl g23 ?_;refine L.val (x_neq rfl rfl) rfl ?_;refine L.nil (thn_n ⟨rfl,rfl,?_,rfl⟩);repeat (first | exact jeq.refl _ _ _ | refine jeq.upd rfl ?_ | refine jeq.jk rfl rfl ?_)
  ·intro g23;refine L.gno (dj:=23) (b:=_) rfl rfl g23 rfl ?_;refine L.gno (dj:=23) (b:=_) rfl rfl g23 rfl ?_;refine L.nil (thn_n ⟨rfl,rfl,?_⟩);repeat (first | exact jeq.refl _ _ _ | refine jeq.upd rfl ?_ | refine jeq.jk rfl rfl ?_)
  intro J23 j23;refine L.val (x_or rfl j23) rfl ?_;refine L.nil (thn_n (W.cond (b:=_) rfl (fun g26=>?_) (fun g26=>?_)))
  ·have h26:=g26;have hc:t.bad=true∨(takeText s t.pos).2.2≠0:=by
     simp only [Bool.or_eq_true,Bool.not_eq_true',decide_eq_false_iff_not] at g26;exact g26
   have hT:tkText s t=([],⟨t.pos,t.parts,true⟩):=if_pos hc;refine W.seq (W.region (L.val (x_mv (v:=.pointer _) rfl) rfl ?_));refine L.val (x_nil rfl) rfl ?_;refine L.val (x_fa kifm_fo67_3 rfl) rfl ?_;refine L.set (v:=.bool _) kifm_sz4 rfl rfl rfl hbx rfl (fun wl29 hbx hw hzl29=>?_);have hG:=hG.into hw rfl;refine L.nil (thn_n (W.seq (W.region (L.val (x_as (v:=S _) rfl) rfl ?_))));refine L.nil (thn_n (W.ret (thn_r (fin_mk (.inr rfl) ?_))));rw [hT];exact ⟨rfl,hbx,hG⟩
  ·have h26:=g26;have hc:¬ (t.bad=true∨(takeText s t.pos).2.2≠0):=by
     simp only [Bool.or_eq_false_iff,Bool.not_eq_false',decide_eq_true_eq] at g26;rintro (g | g)
     · rw [g26.1] at g;cases g
     · exact g g26.2
   have hT:tkText s t=((takeText s t.pos).1,⟨(takeText s t.pos).2.1,t.parts,t.bad⟩):=if_neg hc;refine W.skip (thn_n (W.seq (W.region (L.val (x_mv (v:=.pointer _) rfl) rfl ?_))));refine L.val (x_mv (v:=.int _ _) rfl) rfl ?_;refine L.val (x_nil rfl) rfl ?_;refine L.val (x_fa kifm_fo67_1 rfl) rfl ?_;refine L.set (v:=.int _ _) kifm_sz3 rfl rfl rfl hbx rfl (fun wl35 hbx hw hzl35=>?_);have hG:=hG.into hw rfl;refine L.nil (thn_n (W.seq (W.region (L.val (x_mv (v:=S _) rfl) rfl ?_))));refine L.val (x_as (v:=S _) rfl) rfl ?_;refine L.nil (thn_n (W.ret (fin_mk (.inr rfl) ?_)));rw [hT];exact ⟨rfl,hbx,hG⟩
end Go.Gx
