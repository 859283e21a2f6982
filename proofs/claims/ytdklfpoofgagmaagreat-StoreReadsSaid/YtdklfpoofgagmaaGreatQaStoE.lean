/- A store's keys and values; what lays all anew. Conditions: none. -/
import Derived.Test.YtdklfpoofgagmaaGreatQaStoD
import Derived.Test.YtdklfpoofgagmaaGreatQaWal14
namespace Go.Gx
open Go.Proofs Go.Sort
theorem kstoe_el70:elT Tryz.prog 70 3=true:=by kernel_rfl
theorem kstoe_el9:elT Tryz.prog 9 1=true:=by kernel_rfl
theorem kstoe_en122:Go.Proofs.Enters Tryz.prog 122:=Go.Proofs.enters_of Tryz.func122 kr_ rfl
theorem kstoe_en123:Go.Proofs.Enters Tryz.prog 123:=Go.Proofs.enters_of Tryz.func123 kr_ rfl
theorem kstoe_en44:Go.Proofs.Enters Tryz.prog 44:=Go.Proofs.enters_of Tryz.func44 kr_ rfl
theorem kstoe_en63:Go.Proofs.Enters Tryz.prog 63:=Go.Proofs.enters_of Tryz.func63 kr_ rfl
theorem kstoe_en93:Go.Proofs.Enters Tryz.prog 93:=Go.Proofs.enters_of Tryz.func93 kr_ rfl
theorem kstoe_en94:Go.Proofs.Enters Tryz.prog 94:=Go.Proofs.enters_of Tryz.func94 kr_ rfl
theorem kstoe_en95:Go.Proofs.Enters Tryz.prog 95:=Go.Proofs.enters_of Tryz.func95 kr_ rfl
theorem kstoe_fo100_0:fieldOff Tryz.prog 100 0=some 0:=by kernel_rfl
theorem kstoe_fo97_0:fieldOff Tryz.prog 97 0=some 0:=by kernel_rfl
theorem kstoe_oc9:oneCellT Tryz.prog 9=true:=by kernel_rfl
theorem kstoe_oc95:oneCellT Tryz.prog 95=true:=by kernel_rfl
theorem kstoe_si70:structInfo Tryz.prog 70=some ([(0,1),(1,1),(2,1)],[S [],S [],Value.bool false]):=by kernel_rfl
theorem kstoe_sz9:(Tryz.prog.info? 9).map (·.size)=some 1:=by kernel_rfl
theorem hasprefix_okT (s h:Str) (w:World):Ret Tryz.prog 123 #[S s,S h] w fun v w'=>v=.bool (h.isPrefixOf s)∧w'=w:=by
  have prefix_take:(decide (h.length≤s.length) && (s.take h.length == h))=h.isPrefixOf s:=by
    rw [Bool.eq_iff_iff,Bool.and_eq_true,decide_eq_true_eq,beq_iff_eq,List.isPrefixOf_iff_prefix];constructor
    · rintro ⟨-,h2⟩;rw [← h2];exact List.take_prefix _ _
    · intro h1;exact ⟨h1.length_le,(List.prefix_iff_eq_take.1 h1).symm⟩
  refine ret_of_W Tryz.func123 rfl (Nat.le_of_ble_eq_true rfl) (res1 rfl) ?_;refine W.seq (W.region (L.val (x_as (v:=.bool _) rfl) rfl ?_));refine L.nil (thn_n (W.seq (W.region (L.val (x_mv (v:=S _) rfl) rfl ?_))));refine L.val (x_len_str Tryz.underlying9 rfl) rfl ?_;refine L.val (x_mv (v:=S _) rfl) rfl ?_;refine L.val (x_len_str Tryz.underlying9 rfl) rfl ?_;refine L.val (x_geq rfl rfl) rfl ?_;refine L.val (x_mv (v:=.bool _) rfl) rfl ?_;refine' L.group0 6 11 16 16 10 true rfl ?_ ?_ ?_;rotate_left 1
  ·intro g10;have h10:=of_decide_eq_true g10;refine L.gyes' (dj:=10) (b:=_) rfl rfl g10 ?_;refine L.val (x_mv (v:=S _) rfl) rfl ?_;refine L.gyes' (dj:=10) (b:=_) rfl rfl g10 ?_;refine L.val (x_mv (v:=S _) rfl) rfl ?_;refine L.gyes' (dj:=10) (b:=_) rfl rfl g10 ?_;refine L.val (x_len_str Tryz.underlying9 rfl) rfl ?_;refine L.gyes' (dj:=10) (b:=_) rfl rfl g10 ?_;refine L.val (x_slS (j:=h.length) Tryz.underlying9 rfl rfl rfl om_) rfl ?_;refine L.gyes' (dj:=10) (b:=_) rfl rfl g10 ?_;refine L.val (x_mv (v:=S _) rfl) rfl ?_;refine L.gyes' (dj:=10) (b:=_) rfl rfl g10 ?_;refine L.val (x_eqs rfl rfl) rfl ?_;refine L.nil (thn_n ⟨rfl,rfl,?_,rfl⟩);repeat (first | exact jeq.refl _ _ _ | refine jeq.upd rfl ?_ | refine jeq.jk rfl rfl ?_)
  ·intro g10;(iterate 6 refine L.gno (dj:=10) (b:=_) rfl rfl g10 rfl ?_);refine L.nil (thn_n ⟨rfl,rfl,?_⟩);repeat (first | exact jeq.refl _ _ _ | refine jeq.upd rfl ?_ | refine jeq.jk rfl rfl ?_)
  intro J10 j10;refine L.val (x_and rfl j10) rfl ?_;refine L.val (x_as (v:=.bool _) rfl) rfl ?_;refine L.nil (thn_n (W.ret (fin_mk (.inr rfl) ?_)));exact ⟨vb (by rw [← prefix_take];simp only [Int.ofNat_le]),rfl⟩
theorem prefix_okT (s h:Str) (w:World):Ret Tryz.prog 95 #[S s,S h] w fun v w'=>v=.bool (h.isPrefixOf s)∧w'=w:=by
  refine ret_of_W Tryz.func95 rfl (Nat.le_of_ble_eq_true rfl) (res1 rfl) ?_;refine W.seq (W.region (L.val (x_as (v:=.bool _) rfl) rfl ?_));refine L.nil (thn_n (W.seq (W.region (L.val (x_mv (v:=S _) rfl) rfl ?_))));refine L.val (x_mv (v:=S _) rfl) rfl ?_;refine L.ret (x_call kstoe_en123 rfl) rfl (hasprefix_okT s h _) ?_;rintro _ w7 ⟨rfl,rfl⟩;refine L.val (x_as (v:=.bool _) rfl) rfl ?_;refine L.nil (thn_n (W.ret (fin_mk (.inr rfl) ?_)));exact ⟨rfl,rfl⟩
theorem filter_takeT {α : Type} {p:α → Bool} {l:List α} {k:Nat} (h:k<l.length) (d:α):(l.take (k+1)).filter p=(l.take k).filter p++(if p (l.getD k d) then [l.getD k d] else []):=by
  rw [List.take_add_one,List.getElem?_eq_getElem h,List.filter_append,List.getD_eq_getElem?_getD,List.getElem?_eq_getElem h];simp only [Option.toList_some,Option.getD_some,List.filter_cons,List.filter_nil]
def keysG (G:List Ed) (h:Str):List Str:=(G.map (·.key)).filter fun s=>h.isPrefixOf s
theorem keysG_nil (G:List Ed):keysG G []=G.map (·.key):=by
  unfold keysG;rw [List.filter_eq_self.2];intro a _;cases a <;> rfl
theorem keys_get {T:TypeId} {n0 b:Nat} {m:Option Nat} {rest:List Value} {G:List Ed} (h:Str) (w:World) (hb:Box w b T (.map m :: rest)) (hm:MapHas n0 w m G) (hG:Rises G) (hk:∀ e∈G,e.key.length≤1000) (hl:G.length≤1000000):
    Ret Tryz.prog 63 #[.pointer (some ⟨b,0,none⟩),S h] w fun v w'=>StrsAt (fun k=>k<w.heap.size) w' v (keysG G h)∧Bel w w':=by
  have hGn:(G.map (·.key)).Nodup:=(rises_keys hG).imp fun {a b} h e=>by rw [e,lt_irr] at h;cases h
  refine ret_of_W Tryz.func63 rfl (Nat.le_of_ble_eq_true rfl) (res1 rfl) ?_;have hB:=Gr.refl (fun _=>False) w;refine W.seq (W.region (L.val (x_as (v:=.slice _ _ _) rfl) rfl ?_));refine L.nil (thn_n (W.seq (W.region (L.val (x_as (v:=.slice _ _ _) rfl) rfl ?_))));refine L.nil (thn_n (W.seq (W.seq (W.region (L.val (x_mv (v:=.pointer _) rfl) rfl ?_)))));refine L.val (x_nil rfl) rfl ?_;refine L.val (x_fa kstoe_fo97_0 rfl) rfl ?_;refine L.val (x_ld (v:=.map _) kstoe_oc95 rfl (hb.cell0 rfl)) rfl ?_;refine L.ret (x_call kstoe_en94 rfl) rfl (keys_any m _) ?_;rintro _ w12 ⟨rfl,bx12,hw⟩;have hB:=hB.carry hw;have hb:=hb.carry hw;have hm:=hm.carry hw;refine L.ret (x_call kstoe_en93 rfl) rfl (sorted_ok _ _ (G.map (·.key)) _ kstoe_en122 (by rw [List.length_map];omega) (fun xs hx=>hx) (keys_has hm hG bx12.lt (bx12.cell (i:=0) rfl))) ?_;rintro v13 w13 ⟨hN,hw⟩;have hB:=hB.carry hw;have hb:=hb.carry hw;have hm:=hm.carry hw;have bx12:=bx12.carry hw;obtain ⟨ks,hkp,hks,hka⟩:=sortedNew_strs hN hGn (fun x hx=>by obtain ⟨e,he,rfl⟩:=List.mem_map.1 hx;have:=hk e he;omega) (by rw [List.length_map];omega);have hkeq:ks=G.map (·.key):=sorted_eq hks (rises_keys hG) (fun x=>hkp.mem_iff);subst hkeq;have hka:=hka.new;obtain ⟨pk,ck,rfl,-⟩:=id hka;have hz13:w.heap.size≤w13.heap.size:=by have:=hB.size;omega
  have hlm:(G.map (·.key)).length≤1000000:=by rw [List.length_map];exact hl
  generalize hKS:G.map (·.key)=ks at *;refine L.val (x_len_slice Tryz.underlying22 rfl) rfl ?_;refine L.val (x_mv (v:=.int _ _) rfl) rfl ?_;refine L.nil (thn_n (W.block (W.loop (fun m' E w'=>∃ (i:Nat) (vo:Value),m'=ks.length - i∧E 1=S h∧E 5=vo∧E 13=.slice pk ks.length ck∧E 14=.int .i64 (ks.length:Nat)∧E 15=.int .i64 (i:Nat)∧(i≤ks.length)∧(Bel w w')∧(StrsAt (fun k=>w13.heap.size≤k) w' (.slice pk ks.length ck) ks)∧(w13.heap.size≤w'.heap.size)∧(Own w' w13.heap.size 9 1 vo ((ks.take i).filter fun s=>h.isPrefixOf s).length (((ks.take i).filter fun s=>h.isPrefixOf s).map S))) (ks.length) ?_ ?_)))
  ·exact ⟨0,.slice none 0 0,by omega,vi_,vi_,vi_,vi_,vi_,ao_,ao_,ao_,ao_,(by exact own_nil)⟩
  ·rintro _ E wL16 ⟨i,vo,em,e1,e5,e13,e14,e15,hi,hB,hka,hz,hO⟩;rw [upd_self e1,upd_self e5,upd_self e13,upd_self e14,upd_self e15];refine W.seq (W.region (L.val (x_lss rfl rfl) rfl ?_));refine L.nil (thn_n (W.seq (W.cond (b:=_) rfl (fun g16=>?_) (fun g16=>?_))))
   ·have h16:=of_decide_eq_true g16;have hlt:i<ks.length:=by omega
    obtain ⟨bk,ok,rfl,hck⟩:=hka.elem hlt;obtain ⟨av,cv,ev,-⟩:=own_shape hO;subst ev;have hf:=filter_takeT (p:=fun s=>h.isPrefixOf s) hlt [];have hll:((ks.take i).filter fun s=>h.isPrefixOf s).length≤1000000:=by
      have h1:=List.length_filter_le (fun s=>h.isPrefixOf s) (ks.take i);rw [List.length_take] at h1;omega
    refine W.skip (thn_n (W.seq (W.block (W.seq (W.region (L.val (x_ia1 (j:=i) Tryz.underlying22 kstoe_sz9 rfl rfl om_ om_) rfl ?_))))));refine L.val (x_ld (v:=S _) kstoe_oc9 rfl hck) rfl ?_;refine L.val (x_as (v:=S _) rfl) rfl ?_;refine L.nil (thn_n (W.seq (W.region (L.val (x_mv (v:=S _) rfl) rfl ?_))));refine L.val (x_mv (v:=S _) rfl) rfl ?_;refine L.ret (x_call kstoe_en95 rfl) rfl (prefix_okT (ks.getD i []) h _) ?_;rintro _ w21 ⟨rfl,hq⟩;rw [hq];have hz2:=hz;refine L.nil (thn_n (W.cond (b:=_) rfl (fun g21=>?_) (fun g21=>?_)))
    ·have h21:=g21;have hf1:(ks.take (i+1)).filter (fun s=>h.isPrefixOf s)=(ks.take i).filter (fun s=>h.isPrefixOf s)++[ks.getD i []]:=by rw [hf,if_pos g21]
     refine W.region (L.val (x_mv (v:=.slice _ _ _) rfl) rfl ?_);refine L.val (x_mv (v:=S _) rfl) rfl ?_;refine L.bs (sz:=1) (cells:=[S (ks.getD i [])]) Tryz.underlying22 kstoe_el9 rfl rfl rfl rfl (fun w24 bx24 hw hz24=>?_);have hB:=hB.carry hw;have hka:=hka.carry hw;have hO:=hO.carry hw;refine L.appendN (m:=1) Tryz.underlying22 kstoe_el9 rfl rfl rfl hO rfl (holdsN_box bx24) (by simp [Value.oneCell',S]) om_ om_ (fun v25 w25 hO25 hg hob25=>?_);obtain ⟨a25,c25,e25,-⟩:=own_shape hO25;subst e25;have hz2:w13.heap.size≤w25.heap.size:=by have:=hg.size;omega
     have hB:=hB.step hg (fun i hi e=>by have:=(Own.lt hO e).1;omega);have hka:=hka.carryR hg (fun k e=>(Own.lt hO e).1);have hO2:Own w25 w13.heap.size 9 1 (.slice a25 (((ks.take i).filter fun s=>h.isPrefixOf s).length+1) c25) ((ks.take (i+1)).filter fun s=>h.isPrefixOf s).length (((ks.take (i+1)).filter fun s=>h.isPrefixOf s).map S):=by
       rw [hf1,List.length_append,List.map_append];exact hO25
     refine L.val (x_as (v:=.slice _ _ _) rfl) rfl ?_;refine L.nil (blk_n (thn_n (W.region (L.val (x_add rfl rfl (wr64 om_)) rfl ?_))));refine L.val (x_mv (v:=.int _ _) rfl) rfl ?_;refine L.nil (thn_n ⟨rfl,?_⟩);refine ⟨_,?_,i+1,_,rfl,vi_,vi_,vi_,vi_,vi_,ao_,ao_,ao_,(by exact hz2),(by exact hO2)⟩;omega
    ·have h21:=g21;have hf1:(ks.take (i+1)).filter (fun s=>h.isPrefixOf s)=(ks.take i).filter (fun s=>h.isPrefixOf s):=by rw [hf,if_neg (by rw [g21];decide),List.append_nil]
     have hO2:Own wL16 w13.heap.size 9 1 (.slice av ((ks.take i).filter fun s=>h.isPrefixOf s).length cv) ((ks.take (i+1)).filter fun s=>h.isPrefixOf s).length (((ks.take (i+1)).filter fun s=>h.isPrefixOf s).map S):=by rw [hf1];exact hO
     refine W.skip (blk_n (thn_n (W.region (L.val (x_add rfl rfl (wr64 om_)) rfl ?_))));refine L.val (x_mv (v:=.int _ _) rfl) rfl ?_;refine L.nil (thn_n ⟨rfl,?_⟩);refine ⟨_,?_,i+1,_,rfl,vi_,vi_,vi_,vi_,vi_,ao_,ao_,ao_,(by exact hz2),(by exact hO2)⟩;omega
   ·have h16:=dlt_f g16;have hie:i=ks.length:=by omega
    subst hie;rw [List.take_length] at hO;obtain ⟨av,cv,ev,-⟩:=own_shape hO;subst ev;have hll:(ks.filter fun s=>h.isPrefixOf s).length≤1000000:=by
      have h1:=List.length_filter_le (fun s=>h.isPrefixOf s) ks;omega
    refine W.exit (thn_x (thn_x (blk_hit ?_)));refine thn_n (W.seq (W.region (L.val (x_mv (v:=.slice _ _ _) rfl) rfl ?_)));refine L.val (x_as (v:=.slice _ _ _) rfl) rfl ?_;refine L.nil (thn_n (W.ret (fin_mk (.inr rfl) ?_)));have e:keysG G h=ks.filter fun s=>h.isPrefixOf s:=by unfold keysG;rw [hKS]
    rw [e];refine ⟨strs_done hO om_ (fun x hx=>?_) (fun j hj=>by omega),hB⟩;have hx:=(List.mem_filter.1 hx).1;rw [← hKS] at hx;obtain ⟨e,he,rfl⟩:=List.mem_map.1 hx;have:=hk e he;omega
theorem val_at {G:List Ed} (hG:Rises G) {i:Nat} (h:i<G.length):valE G (G.getD i default).key=some (G.getD i default).val∧(G.getD i default).gone=false:=by
  have:=(rises_find hG).1 (show G.getD i default∈G by rw [List.getD_eq_getElem?_getD,List.getElem?_eq_getElem h];exact List.getElem_mem h);exact ⟨this.2,this.1⟩
theorem keys_at {G:List Ed} {i:Nat} (h:i<G.length):(G.map (·.key)).getD i []=(G.getD i default).key:=by
  rw [List.getD_eq_getElem?_getD,List.getElem?_map,List.getD_eq_getElem?_getD,List.getElem?_eq_getElem h];rfl
theorem snap_take {G:List Ed} {i:Nat} (h:i<G.length):allB (snapL (G.take (i+1)))=allB (snapL (G.take i))++[bodyB [G.getD i default]]:=by
  unfold allB snapL;rw [take_snoc (d:=default) h,List.map_append,List.map_append];rfl
theorem snapshot_ok {T:TypeId} {n0 b:Nat} {m:Option Nat} {rest:List Value} {G:List Ed} (w:World) (hb:Box w b T (.map m :: rest)) (hm:MapHas n0 w m G) (hG:Rises G) (hmay:mayL G=true) (hl:G.length≤1000000):
    Ret Tryz.prog 46 #[.pointer (some ⟨b,0,none⟩)] w fun v w'=>StrsAt (fun k=>k<w.heap.size) w' v (allB (snapL G))∧Bel w w':=by
  have hme:∀ e∈G,mayE e=true:=fun e he=>List.all_eq_true.1 hmay e he
  have hb0:=hb;refine ret_of_W Tryz.func46 rfl (Nat.le_of_ble_eq_true rfl) (res1 rfl) ?_;have hB:=Gr.refl (fun _=>False) w;refine W.seq (W.region (L.val (x_as (v:=.slice _ _ _) rfl) rfl ?_));refine L.nil (thn_n (W.seq (W.region (L.val (x_as (v:=.slice _ _ _) rfl) rfl ?_))));refine L.nil (thn_n (W.seq (W.seq (W.region (L.val (x_mv (v:=.pointer _) rfl) rfl ?_)))));refine L.ret (x_call kstoe_en63 rfl) rfl (keys_get [] _ hb hm hG (fun e he=>by have:=mayE_len (hme e he);omega) hl) ?_;rintro v7 w7 ⟨hka,hw⟩;have hB:=hB.carry hw;have hb:=hb.carry hw;have hm:=hm.carry hw;have hka:=hka.new;rw [keysG_nil] at hka;obtain ⟨pk,ck,rfl,-⟩:=id hka;rw [List.length_map] at hka ⊢;have hz7:=hw.size;refine L.val (x_len_slice Tryz.underlying22 rfl) rfl ?_;refine L.val (x_mv (v:=.int _ _) rfl) rfl ?_;refine L.nil (thn_n (W.block (W.loop (fun m' E w'=>∃ (i:Nat) (vo:Value),m'=G.length - i∧E 0=.pointer (some ⟨b,0,none⟩)∧E 3=vo∧E 7=.slice pk G.length ck∧E 8=.int .i64 (G.length:Nat)∧E 9=.int .i64 (i:Nat)∧(i≤G.length)∧(Bel w w')∧(Box w' b T (.map m :: rest))∧(MapHas n0 w' m G)∧(StrsAt (fun k=>w7.heap.size≤k) w' (.slice pk G.length ck) (G.map (·.key)))∧(w7.heap.size≤w'.heap.size)∧(Own w' w7.heap.size 9 1 vo i ((allB (snapL (G.take i))).map S))) (G.length) ?_ ?_)))
  ·exact ⟨0,.slice none 0 0,by omega,by first | rfl | exact vi om_ | exact vs (by first | assumption | (rw [hst];done) | (rw [hst];simp only [List.append_assoc])),by first | rfl | exact vi om_ | exact vs (by first | assumption | (rw [hst];done) | (rw [hst];simp only [List.append_assoc])),by first | rfl | exact vi om_ | exact vs (by first | assumption | (rw [hst];done) | (rw [hst];simp only [List.append_assoc])),by first | rfl | exact vi om_ | exact vs (by first | assumption | (rw [hst];done) | (rw [hst];simp only [List.append_assoc])),by first | rfl | exact vi om_ | exact vs (by first | assumption | (rw [hst];done) | (rw [hst];simp only [List.append_assoc])),ao_,ao_,ao_,ao_,ao_,ao_,(by exact own_nil)⟩
  ·rintro _ E wL10 ⟨i,vo,em,e0,e3,e7,e8,e9,hi,hB,hb,hm,hka,hz,hO⟩;rw [upd_self e0,upd_self e3,upd_self e7,upd_self e8,upd_self e9];refine W.seq (W.region (L.val (x_lss rfl rfl) rfl ?_));refine L.nil (thn_n (W.seq (W.cond (b:=_) rfl (fun g10=>?_) (fun g10=>?_))))
   ·have h10:=of_decide_eq_true g10;have hlt:i<G.length:=by omega
    obtain ⟨bk,ok,rfl,hck⟩:=hka.elem (i:=i) (by rw [List.length_map];exact hlt);rw [keys_at hlt] at hck;obtain ⟨av,cv,ev,-⟩:=own_shape hO;subst ev;obtain ⟨hv1,hv2⟩:=val_at hG hlt;have hst:=snap_take hlt;have hmi:=hme (G.getD i default) (by rw [List.getD_eq_getElem?_getD,List.getElem?_eq_getElem hlt];exact List.getElem_mem hlt);have hbl:=body1_len hmi;have hml:=mayE_len hmi;refine W.skip (thn_n (W.seq (W.block (W.seq (W.region (L.val (x_ia1 (j:=i) Tryz.underlying22 kstoe_sz9 rfl rfl om_ om_) rfl ?_))))));refine L.val (x_ld (v:=S _) kstoe_oc9 rfl hck) rfl ?_;refine L.val (x_as (v:=S _) rfl) rfl ?_;refine L.nil (thn_n (W.region (L.val (x_mv (v:=.slice _ _ _) rfl) rfl ?_)));refine L.val (x_mv (v:=S _) rfl) rfl ?_;refine L.val (x_mv (v:=.pointer _) rfl) rfl ?_;refine L.val (x_nil rfl) rfl ?_;refine L.val (x_fa kstoe_fo97_0 rfl) rfl ?_;refine L.val (x_ld (v:=.map _) kstoe_oc95 rfl (hb.cell0 rfl)) rfl ?_;refine L.val (x_mv (v:=S _) rfl) rfl ?_;refine L.val (x_hasF Tryz.underlying95 (klawS Tryz.underlying9) kr_ rfl rfl hm) rfl ?_;refine L.val (x_build (cells:=[S _,S _,.bool _]) kstoe_si70 rfl rfl) rfl ?_;refine L.bs (sz:=3) (cells:=edV ⟨(G.getD i default).key,(valE G (G.getD i default).key).getD [],false⟩) Tryz.underlying31 kstoe_el70 rfl rfl rfl rfl (fun w22 bx22 hw hz22=>?_);have hB:=hB.carry hw;have hb:=hb.carry hw;have hm:=hm.carry hw;have hka:=hka.carry hw;have hO:=hO.carry hw;have e22:(⟨(G.getD i default).key,(valE G (G.getD i default).key).getD [],false⟩:Ed)=G.getD i default:=by
      rw [hv1,← hv2];rfl
    rw [e22] at bx22;have hE:=eds_of_box (A:=fun _=>False) [G.getD i default] (by simpa using bx22) (fun f=>f) (by simp) (fun e he=>by rw [List.mem_singleton.1 he];exact ⟨by omega,by omega⟩);refine L.ret (x_call kstoe_en44 rfl) rfl (body_ok _ _ [G.getD i default] _ hE (by simp) om_) ?_;rintro _ w23 ⟨rfl,hw⟩;have hB:=hB.carry hw;have hb:=hb.carry hw;have hm:=hm.carry hw;have hka:=hka.carry hw;have hO:=hO.carry hw;have bx22:=bx22.carry hw;have hs23:=hw.size;refine L.bs (sz:=1) (cells:=[S (bodyB [G.getD i default])]) Tryz.underlying22 kstoe_el9 rfl rfl rfl rfl (fun w24 bx24 hw hz24=>?_);have hB:=hB.carry hw;have hb:=hb.carry hw;have hm:=hm.carry hw;have hka:=hka.carry hw;have hO:=hO.carry hw;have bx22:=bx22.carry hw;refine L.appendN (m:=1) Tryz.underlying22 kstoe_el9 rfl rfl rfl hO rfl (holdsN_box bx24) (by simp [Value.oneCell',S]) om_ om_ (fun v25 w25 hO25 hg hob25=>?_);obtain ⟨a25,c25,e25,-⟩:=own_shape hO25;subst e25;have hsz7:w.heap.size≤w7.heap.size:=hz7;have hblt:=hb0.lt;have hz2:w7.heap.size≤w25.heap.size:=by have:=hg.size;omega
    have hB:=hB.step hg (fun i hi e=>by have:=(Own.lt hO e).1;omega);have hka:=hka.carryR hg (fun k e=>(Own.lt hO e).1);have hb:=hb.carryR hg (fun e=>by have:=(Own.lt hO e).1;omega);have hm:=hm.carryR hg (fun k hk e=>by
      rcases hm with ⟨e1,-⟩ | ⟨mb,l',e1,-,hH⟩
      · rw [e1] at hk;cases hk
      · rw [e1] at hk;cases hk;obtain ⟨es,ck',hes,-⟩:=hH.map;have:=Own.cells hO e hes;cases this)
    have hO2:Own w25 w7.heap.size 9 1 (.slice a25 (i+1) c25) (i+1) ((allB (snapL (G.take (i+1)))).map S):=by
      rw [hst,List.map_append];exact hO25
    refine L.val (x_as (v:=.slice _ _ _) rfl) rfl ?_;refine L.nil (blk_n (thn_n (W.region (L.val (x_add rfl rfl (wr64 om_)) rfl ?_))));refine L.val (x_mv (v:=.int _ _) rfl) rfl ?_;refine L.nil (thn_n ⟨rfl,?_⟩);refine ⟨_,?_,i+1,_,rfl,by first | rfl | exact vi om_ | exact vs (by first | assumption | (rw [hst];done) | (rw [hst];simp only [List.append_assoc])),by first | rfl | exact vi om_ | exact vs (by first | assumption | (rw [hst];done) | (rw [hst];simp only [List.append_assoc])),by first | rfl | exact vi om_ | exact vs (by first | assumption | (rw [hst];done) | (rw [hst];simp only [List.append_assoc])),by first | rfl | exact vi om_ | exact vs (by first | assumption | (rw [hst];done) | (rw [hst];simp only [List.append_assoc])),by first | rfl | exact vi om_ | exact vs (by first | assumption | (rw [hst];done) | (rw [hst];simp only [List.append_assoc])),ao_,ao_,ao_,ao_,ao_,(by exact hz2),(by exact hO2)⟩;omega
   ·have h10:=dlt_f g10;have hie:i=G.length:=by omega
    subst hie;rw [List.take_length] at hO;have e:G.length=(allB (snapL G)).length:=by unfold allB snapL;simp
    rw [e] at hO;obtain ⟨av,cv,ev,-⟩:=own_shape hO;subst ev;refine W.exit (thn_x (thn_x (blk_hit ?_)));refine thn_n (W.seq (W.region (L.val (x_mv (v:=.slice _ _ _) rfl) rfl ?_)));refine L.val (x_as (v:=.slice _ _ _) rfl) rfl ?_;refine L.nil (thn_n (W.ret (fin_mk (.inr rfl) ?_)));refine ⟨strs_done hO (by rw [← e];omega) (fun x hx=>?_) (fun j hj=>by omega),hB⟩;obtain ⟨l,hl,rfl⟩:=List.mem_map.1 hx;obtain ⟨e,he,rfl⟩:=List.mem_map.1 hl;have:=body1_len (hme e he);omega
def StoAt (n0:Nat) (w:World) (bs bl:Nat) (G:List Ed):Prop:=∃ m,n0≤bs∧Box w bs 100 [.map m,.pointer (some ⟨bl,0,none⟩)]∧MapHas n0 w m G
theorem StoAt.carry {n0 bs bl:Nat} {w w':World} {G:List Ed} (h:StoAt n0 w bs bl G) (g:Bel w w'):StoAt n0 w' bs bl G:=by
  obtain ⟨m,h1,h2,h3⟩:=h;exact ⟨m,h1,h2.carry g,h3.carry g⟩
theorem get_s (n0 bs bl:Nat) (G:List Ed) (k:Str) (w:World) (h:StoAt n0 w bs bl G):Ret Tryz.prog 29 #[.pointer (some ⟨bs,0,none⟩),S k] w fun v w'=>v=.tuple #[S ((valE G k).getD []),.bool (valE G k).isSome]∧w'=w:=by
  obtain ⟨m,h1,hb,hm⟩:=h;refine ret_of_W Tryz.func29 rfl (Nat.le_of_ble_eq_true rfl) (res2 rfl) ?_;refine W.seq (W.region (L.val (x_as (v:=S _) rfl) rfl ?_));refine L.val (x_as (v:=.bool _) rfl) rfl ?_;refine L.nil (thn_n (W.seq (W.seq (W.region (L.val (x_mv (v:=.pointer _) rfl) rfl ?_)))));refine L.val (x_eqp0 Tryz.underlying40 rfl rfl) rfl ?_;refine L.nil (thn_n (W.cond (b:=_) rfl (fun g9=>?_) (fun g9=>?_)))
  ·have h9:=g9;cases g9
  ·have h9:=g9;refine W.skip (thn_n (W.seq (W.region (L.val (x_mv (v:=.pointer _) rfl) rfl ?_))));refine L.val (x_nil rfl) rfl ?_;refine L.val (x_fa kstoe_fo100_0 rfl) rfl ?_;refine L.val (x_fa kstoe_fo97_0 rfl) rfl ?_;refine L.val (x_ld (v:=.map _) kstoe_oc95 rfl (hb.cell0 rfl)) rfl ?_;refine L.val (x_mv (v:=S _) rfl) rfl ?_;refine L.val (x_hasT Tryz.underlying95 (klawS Tryz.underlying9) kr_ rfl rfl hm) rfl ?_;refine L.val (x_mv (v:=_) rfl) rfl ?_;refine L.val (x_ext (v:=S _) rfl rfl) rfl ?_;refine L.val (x_ext (v:=.bool _) rfl rfl) rfl ?_;refine L.val (x_as (v:=S _) rfl) rfl ?_;refine L.val (x_as (v:=.bool _) rfl) rfl ?_;refine L.nil (thn_n (W.seq (W.region (L.val (x_mv (v:=S _) rfl) rfl ?_))));refine L.val (x_mv (v:=.bool _) rfl) rfl ?_;refine L.val (x_as (v:=S _) rfl) rfl ?_;refine L.val (x_as (v:=.bool _) rfl) rfl ?_;refine L.nil (thn_n (W.ret (fin_mk (.inr rfl) ?_)));exact ⟨rfl,rfl⟩
theorem keys_s (n0 bs bl:Nat) (G:List Ed) (k:Str) (w:World) (h:StoAt n0 w bs bl G) (hG:Rises G) (hk:∀ e∈G,e.key.length≤1000) (hl:G.length≤1000000):Ret Tryz.prog 31 #[.pointer (some ⟨bs,0,none⟩),S k] w fun v w'=>StrsAt (fun j=>j<w.heap.size) w' v (keysG G k)∧Bel w w':=by
  obtain ⟨m,h1,hb,hm⟩:=h;refine ret_of_W Tryz.func31 rfl (Nat.le_of_ble_eq_true rfl) (res1 rfl) ?_;refine W.seq (W.region (L.val (x_as (v:=.slice _ _ _) rfl) rfl ?_));refine L.nil (thn_n (W.seq (W.seq (W.region (L.val (x_mv (v:=.pointer _) rfl) rfl ?_)))));refine L.val (x_eqp0 Tryz.underlying40 rfl rfl) rfl ?_;refine L.nil (thn_n (W.cond (b:=_) rfl (fun g6=>?_) (fun g6=>?_)))
  ·have h6:=g6;cases g6
  ·have h6:=g6;refine W.skip (thn_n (W.seq (W.region (L.val (x_mv (v:=.pointer _) rfl) rfl ?_))));refine L.val (x_nil rfl) rfl ?_;refine L.val (x_fa kstoe_fo100_0 rfl) rfl ?_;refine L.val (x_mv (v:=S _) rfl) rfl ?_;refine L.ret (x_call kstoe_en63 rfl) rfl (keys_get k _ hb hm hG hk hl) ?_;rintro v11 w11 ⟨hq,hw⟩;obtain ⟨p11,c11,rfl,-⟩:=id hq;refine L.val (x_as (v:=.slice _ _ _) rfl) rfl ?_;refine L.nil (thn_n (W.ret (fin_mk (.inr rfl) ?_)));exact ⟨hq,hw⟩
end Go.Gx
namespace Go.Gx
open Go.Proofs
theorem getD_set0 {l:List Str} {i j:Nat} {x:Str} (hj:j<l.length):(l.set j x).getD i []=if i=j then x else l.getD i []:=by
  rw [List.getD_eq_getElem?_getD,List.getElem?_set];split
  · rename_i h;subst h;simp [hj]
  · rename_i h;rw [if_neg (fun e=>h e.symm),List.getD_eq_getElem?_getD]
theorem apD_app (pl:List Str) (l m:List (Nat × Str)):apD pl (l++m)=apD (apD pl l) m:=by unfold apD;rw [List.foldl_append]
theorem apC_get (pl:List Str) (st:Nat) (c:Nat→Str) (i:Nat):∀ m,st+m≤pl.length→(apD pl ((List.range m).map fun k=>(st+k,c k))).getD i []=if st≤i∧i<st+m then c (i - st) else pl.getD i []
  | 0,_=>by rw [if_neg om_];rfl
  | m+1,h=>by
    rw [List.range_succ,List.map_append,apD_app];have e:apD (apD pl ((List.range m).map fun k=>(st+k,c k))) ([m].map fun k=>(st+k,c k))=(apD pl ((List.range m).map fun k=>(st+k,c k))).set (st+m) (c m):=rfl;rw [e,getD_set0 (by rw [apD_len];omega),apC_get pl st c i m om_];by_cases h1:i=st+m
    · rw [if_pos h1,if_pos om_,h1,show st+m - st=m by omega]
    · rw [if_neg h1];by_cases h2:st≤i∧i<st+m
      · rw [if_pos h2,if_pos om_]
      · rw [if_neg h2,if_neg om_]
theorem rdD_pl {D:Dk} (h:D.ca=[]) (i:Nat):rdD D i=D.pl.getD i []:=by unfold rdD;rw [h];rfl
def nck (D:Dk) (p:Pt) (at':Nat) (s:Str):Nat:=if s=[] then 0 else ((allS D p at' s).length+63) / 64
theorem comD_rd {D:Dk} {p:Pt} {at':Nat} {s:Str} (hca:D.ca=[]) (h6:6≤D.pl.length) (hm:stN D.pl.length p.half+at' / 64+nck D p at' s≤D.pl.length) (i:Nat):
    rdD (comD D p at' s) i=if i=p.ep % 2 then hdrS p else if stN D.pl.length p.half+at' / 64≤i∧i<stN D.pl.length p.half+at' / 64+nck D p at' s then ckS (allS D p at' s) (i - (stN D.pl.length p.half+at' / 64)) else rdD D i:=by
  rw [rdD_pl (show (comD D p at' s).ca=[] from rfl),rdD_pl hca];have e:(comD D p at' s).pl=((apD D.pl (D.ca++(List.range (nck D p at' s)).map (fun k=>(stN D.pl.length p.half+at' / 64+k,ckS (allS D p at' s) k)))).set (p.ep % 2) (zeros 64)).set (p.ep % 2) (hdrS p):=by
    have e1:(comD D p at' s).pl=apD (apD D.pl (D.ca++(List.range (nck D p at' s)).map (fun k=>(stN D.pl.length p.half+at' / 64+k,ckS (allS D p at' s) k))++[(p.ep % 2,zeros 64)])) [(p.ep % 2,hdrS p)]:=rfl;rw [e1,apD_app _ _ [(p.ep % 2,zeros 64)]];rfl
  rw [e,hca,List.nil_append,getD_set0 (by rw [List.length_set,apD_len];omega),getD_set0 (by rw [apD_len];omega),apC_get _ _ _ _ _ hm];by_cases h1:i=p.ep % 2
  · rw [if_pos h1,if_pos h1]
  · rw [if_neg h1,if_neg h1,if_neg h1]
theorem areaS_get {D:Dk} (hok:DkOk D) (p:Pt) (j:Nat):∀ K,(∀ i,i<K→stN D.pl.length p.half+i<D.pl.length)→j<64 * K→(areaS D p K)[j]? = (rdD D (stN D.pl.length p.half+j / 64))[j % 64]?
  | 0,_,h=>by omega
  | K+1,hK,h=>by
    have hl:=areaS_len hok (p:=p) K (fun i hi=>hK i om_);rw [← areaS_succ];by_cases h1:j<64 * K
    · rw [List.getElem?_append_left om_,areaS_get hok p j K (fun i hi=>hK i om_) h1]
    · rw [List.getElem?_append_right om_,hl,show j / 64=K by omega,show j - 64 * K=j % 64 by omega]
theorem ckS_get {all:Str} {k r:Nat} (hr:r<64) (h:64 * k+r<all.length):(ckS all k)[r]? = all[64 * k+r]? := by
  unfold ckS pad;rw [List.getElem?_append_left (by rw [List.length_take,List.length_drop];omega),List.getElem?_take,if_pos hr,List.getElem?_drop]
theorem com_area {D:Dk} {p:Pt} {at':Nat} {s:Str} (hok:DkOk D) (hok':DkOk (comD D p at' s)) (hca:D.ca=[]) (h6:6≤D.pl.length) (hh:p.half≤1) (hr:at'+s.length≤roomN D.pl.length) (ht:p.tail=at'+s.length):
    allA (comD D p at' s) p=(areaS D p ((at'+63) / 64)).take at'++s:=by
  have hst:=stN_le h6 hh;have hrN:roomN D.pl.length=hlf D.pl.length * 64:=rfl;have hal:=allS_len hok (s:=s) h6 hh (at':=at') om_;have hnk:s=[]∧nck D p at' s=0∨s≠[]∧nck D p at' s=(at' % 64+s.length+63) / 64:=by
    unfold nck;by_cases h:s=[]
    · exact .inl ⟨h,if_pos h⟩
    · exact .inr ⟨h,by rw [if_neg h,hal]⟩
  have hm:stN D.pl.length p.half+at' / 64+nck D p at' s≤D.pl.length:=by
    rcases hnk with ⟨h,e⟩ | ⟨h,e⟩ <;> rw [e] <;> omega
  have h2:2≤stN D.pl.length p.half:=by unfold stN;omega
  have hlen:=comD_len D p at' s;have hL:(areaS (comD D p at' s) p ((at'+s.length+63) / 64)).length=64 * ((at'+s.length+63) / 64):=areaS_len hok' _ (fun i hi=>by rw [hlen];omega);have hL0:(areaS D p ((at'+63) / 64)).length=64 * ((at'+63) / 64):=areaS_len hok _ (fun i hi=>by omega);unfold allA;rw [ht];apply List.ext_getElem?;intro j;by_cases hj:j<at'+s.length
  · rw [List.getElem?_take,if_pos hj,areaS_get hok' p j ((at'+s.length+63) / 64) (fun i hi=>by rw [hlen];omega) om_,hlen,comD_rd hca h6 hm,if_neg om_];have old:j<at'→((areaS D p ((at'+63) / 64)).take at'++s)[j]? = (rdD D (stN D.pl.length p.half+j / 64))[j % 64]? := fun h=>by
      rw [List.getElem?_append_left (by rw [List.length_take];omega),List.getElem?_take,if_pos h,areaS_get hok p j ((at'+63) / 64) (fun i hi=>by omega) om_]
    by_cases hw:stN D.pl.length p.half+at' / 64≤stN D.pl.length p.half+j / 64∧stN D.pl.length p.half+j / 64<stN D.pl.length p.half+at' / 64+nck D p at' s
    · have hs:s≠[]:=by rcases hnk with ⟨h,e⟩ | ⟨h,e⟩;(rw [e] at hw;omega);exact h
      rw [if_pos hw,show stN D.pl.length p.half+j / 64 - (stN D.pl.length p.half+at' / 64)=j / 64 - at' / 64 by omega,ckS_get om_ om_];by_cases hja:j<at'
      · rw [old hja];have e1:j / 64=at' / 64:=by omega
        unfold allS;rw [if_neg om_,List.getElem?_append_left (by rw [List.length_take,rdD_len hok om_];omega),List.getElem?_take,if_pos om_,e1,Nat.sub_self,Nat.mul_zero,Nat.zero_add]
      · rw [List.getElem?_append_right (by rw [List.length_take];omega),List.length_take,hL0];unfold allS;by_cases h0:at' % 64=0
        · rw [if_pos h0];congr 1;omega
        · rw [if_neg h0,List.getElem?_append_right (by rw [List.length_take,rdD_len hok om_];omega),List.length_take,rdD_len hok om_];congr 1;omega
    · rw [if_neg hw,old (by rcases hnk with ⟨h,e⟩ | ⟨h,e⟩;(subst h;simpa using hj);(rw [e] at hw;omega))]
  · rw [List.getElem?_eq_none (by rw [List.length_take];omega),List.getElem?_eq_none (by rw [List.length_append,List.length_take];omega)]
end Go.Gx
namespace Go.Gx
open Go.Proofs
structure Rep (D:Dk) (q:Pt) (all:List Str):Prop where
  ok:QOk D q
  big:tooBig all=false
  tail:q.tail=(all.map frm).flatten.length
  cnt:q.cnt=all.length
  area:allA D q=(all.map frm).flatten
  z:q.ep=0→q=pt0∧rdD D 0=zeros 64∧rdD D 1=zeros 64
  hd:0<q.ep→rdD D (q.ep % 2)=hdrS q
  ot:0<q.ep→rdOk (rdD D ((q.ep+1) % 2)) (roomN D.pl.length)=true→(rdPt (rdD D ((q.ep+1) % 2))).ep<q.ep
theorem rdOk_zeros (room:Nat):rdOk (zeros 64) room=false:=by
  have h:((zeros 64).drop 17).take 17=turnS ((zeros 64).take 17)→False:=by decide +kernel
  unfold rdOk;rw [beq_eq_false_iff_ne.2 h];rfl
theorem QOk.pt {D:Dk} {q:Pt} (h:QOk D q) (hok:DkOk D):PtOk q:=by
  have:=roomN_le hok.small;have:=h.tail;have:=h.half;have:=h.ep;have:=h.cnt;exact ⟨by omega,by omega,by omega,by omega⟩
theorem rep_new {m:Nat} (h:6≤m):Rep (newD m) pt0 []:=by
  have hz:∀ i,i<m→rdD (newD m) i=zeros 64:=fun i hi=>by
    rw [rdD_pl rfl];show (List.replicate m (zeros 64)).getD i []=_;rw [List.getD_eq_getElem?_getD,List.getElem?_replicate,if_pos hi];rfl
  exact ⟨q_new h,rfl,rfl,rfl,rfl,fun _=>⟨rfl,hz 0 om_,hz 1 om_⟩,fun e=>absurd e (by decide),fun e=>absurd e (by decide)⟩
theorem makeS_ok {l:List Str} (h:(makeS l).2=0):tooBig l=false∧(makeS l).1=(l.map frm).flatten:=by
  unfold makeS at h ⊢;split at h
  · cases h
  · rename_i h1
    rw [if_neg h1];exact ⟨by simpa using h1,rfl⟩
theorem tooBig_app {l m:List Str} (h1:tooBig l=false) (h2:tooBig m=false):tooBig (l++m)=false:=by
  unfold tooBig at *;rw [List.any_append,h1,h2];rfl
theorem areaS_half (D:Dk) {p q:Pt} (h:p.half=q.half) (k:Nat):areaS D p k=areaS D q k:=by unfold areaS;rw [h]
def goesA (all:List Str) (a:Wc):List Str:=if a.kind=0 then all++a.bods else if a.kind=1 then a.bods else all
end Go.Gx
namespace Go.Gx
open Go.Proofs
theorem turnB_nat (b:UInt8):(turnB b).toNat=255 - b.toNat:=by
  unfold turnB;rw [UInt8.toNat_ofNat'];have:=b.toNat_lt;omega
theorem turnB_0:turnB 0=255:=by decide
theorem turnB_255 {b:UInt8} (h:turnB b=255):b=0:=by
  have h1:=congrArg UInt8.toNat h;rw [turnB_nat] at h1;have h2:=b.toNat_lt;have h3:(255:UInt8).toNat=255:=rfl;apply UInt8.toNat_inj.1;have h4:(0:UInt8).toNat=0:=rfl;omega
theorem ok_bytes {s:Str} {room:Nat} (h:rdOk s room=true) (hl:s.length=64):∀ j,j<17→s.getD (17+j) 0=turnB (s.getD j 0):=fun j hj=>by
  unfold rdOk at h;simp only [Bool.and_eq_true,beq_iff_eq] at h;have e:=congrArg (fun l=>l[j]?) h.1.1;simp only [turnS] at e;rw [List.getElem?_take,if_pos hj,List.getElem?_drop,List.getElem?_map,List.getElem?_take,if_pos hj,List.getElem?_eq_getElem om_,List.getElem?_eq_getElem om_] at e;simp only [Option.map_some,Option.some.injEq] at e;rw [List.getD_eq_getElem?_getD,List.getD_eq_getElem?_getD,List.getElem?_eq_getElem om_,List.getElem?_eq_getElem om_];exact e
theorem rd_34 {a b:Str} {room:Nat} (h:a.take 34=b.take 34):rdOk a room=rdOk b room∧rdPt a=rdPt b:=by
  have e1:∀ k,k≤34→a.take k=b.take k:=fun k hk=>by
    have:=congrArg (List.take k) h
    rwa [List.take_take,List.take_take,Nat.min_eq_left hk] at this
  have e2:∀ i m,i+m≤34→(a.drop i).take m=(b.drop i).take m:=fun i m him=>by
    rw [List.take_drop,List.take_drop,e1 _ him]
  have e3:a.getD 8 0=b.getD 8 0:=by
    have:=congrArg (fun l=>l[8]?) h;simp only [List.getElem?_take] at this;rw [if_pos om_,if_pos om_] at this;rw [List.getD_eq_getElem?_getD,List.getD_eq_getElem?_getD,this]
  have e4:rdPt a=rdPt b:=by unfold rdPt;rw [e1 8 om_,e3,e2 9 4 om_,e2 13 4 om_]
  refine ⟨?_,e4⟩;unfold rdOk;rw [e4,e1 17 om_,e2 17 17 om_]
theorem eq_bytes {a b:Str} {m:Nat} (ha:m≤a.length) (hb:m≤b.length) (h:∀ j,j<m→a.getD j 0=b.getD j 0):a.take m=b.take m:=by
  apply List.ext_getElem?;intro j;rw [List.getElem?_take,List.getElem?_take];split
  · rename_i hj
    have:=h j hj;rw [List.getD_eq_getElem?_getD,List.getD_eq_getElem?_getD,List.getElem?_eq_getElem om_,List.getElem?_eq_getElem om_] at this;rw [List.getElem?_eq_getElem om_,List.getElem?_eq_getElem om_];exact congrArg some this
  · rfl
theorem of_eq {a b:Str} {m:Nat} (h:a.take m=b.take m) {j:Nat} (hj:j<m):a.getD j 0=b.getD j 0:=by
  have:=congrArg (fun l=>l[j]?) h;simp only [List.getElem?_take] at this;rw [if_pos hj,if_pos hj] at this;rw [List.getD_eq_getElem?_getD,List.getD_eq_getElem?_getD,this]
theorem zz_get (n:Nat) (s:Str) (j:Nat):(zeros n++s.drop n).getD j 0=if j<n then 0 else s.getD j 0:=by
  rw [List.getD_eq_getElem?_getD,List.getElem?_append,zeros_len];split
  · rename_i h
    unfold zeros;rw [List.getElem?_replicate,if_pos h];rfl
  · rename_i h
    rw [List.getElem?_drop,List.getD_eq_getElem?_getD,show n+(j - n)=j by omega]
theorem zz_len {n:Nat} {s:Str} (hn:n≤64) (hs:s.length=64):(zeros n++s.drop n).length=64:=by
  rw [List.length_append,zeros_len,List.length_drop];omega
theorem tz_get (m:Nat) (s:Str) (hs:s.length=64) (hm:m≤64) (j:Nat):(s.take m++zeros (64 - m)).getD j 0=if j<m then s.getD j 0 else 0:=by
  rw [List.getD_eq_getElem?_getD,List.getElem?_append,List.length_take,hs,Nat.min_eq_left hm];split
  · rename_i h
    rw [List.getElem?_take,if_pos h,List.getD_eq_getElem?_getD]
  · unfold zeros;rw [List.getElem?_replicate];split <;> rfl
theorem tz_len {m:Nat} {s:Str} (hm:m≤64) (hs:s.length=64):(s.take m++zeros (64 - m)).length=64:=by
  rw [List.length_append,zeros_len,List.length_take];omega
def ZP (room:Nat) (s:Str):Prop:=∀ n,n≤64→rdOk (zeros n++s.drop n) room=true→(zeros n++s.drop n).take 34=s.take 34
theorem hdr_bytes (p:Pt):∀ j,j<17→(hdrS p).getD (17+j) 0=turnB ((hdrS p).getD j 0):=fun j hj=>by
  have hl:=hdrS_len p;have e:=congrArg (fun l=>l[j]?) ((hdr_17 p).2.trans (congrArg turnS (hdr_17 p).1.symm));simp only [turnS] at e;rw [List.getElem?_take,if_pos hj,List.getElem?_drop,List.getElem?_map,List.getElem?_take,if_pos hj,List.getElem?_eq_getElem om_,List.getElem?_eq_getElem om_] at e;simp only [Option.map_some,Option.some.injEq] at e;rw [List.getD_eq_getElem?_getD,List.getD_eq_getElem?_getD,List.getElem?_eq_getElem om_,List.getElem?_eq_getElem om_];exact e
theorem ne255:(0:UInt8)≠255:=by decide
theorem ZP_torn (room:Nat) (p:Pt) {m:Nat} (hm:m≤64):ZP room ((hdrS p).take m++zeros (64 - m)):=fun n hn hok=>by
  have hl:=hdrS_len p;have hls:=tz_len hm hl;have hb:=ok_bytes hok (zz_len hn hls);refine eq_bytes (by rw [zz_len hn hls];omega) om_ fun j hj=>?_
  rw [zz_get];split
  · rename_i hjn
    have h0:=hb 0 om_;rw [zz_get,zz_get,if_pos (show 0<n by omega),turnB_0] at h0;have hn17:n≤17:=by
      rcases Nat.lt_or_ge 17 n with h | h
      · rw [if_pos om_] at h0;exact absurd h0 ne255
      · exact h
    have h1:=hb j om_;rw [zz_get,zz_get,if_pos hjn,if_neg om_,turnB_0,tz_get m _ hl hm] at h1;split at h1
    · rename_i h17
      rw [hdr_bytes p j om_] at h1;rw [tz_get m _ hl hm,if_pos om_,turnB_255 h1]
    · exact absurd h1 ne255
  · rfl
theorem ZP_zero {room:Nat} {s:Str} (hs:s.length=64) (h:ZP room s) {k:Nat} (hk:k≤64):ZP room (zeros k++s.drop k):=fun n hn hok=>by
  have hl1:=zz_len hk hs;refine eq_bytes (by rw [zz_len hn hl1];omega) (by rw [hl1];omega) fun j hj=>?_
  rcases Nat.lt_or_ge k n with h1 | h1
  · have e:zeros n++(zeros k++s.drop k).drop n=zeros n++s.drop n:=by
      rw [List.drop_append,zeros_len,List.drop_of_length_le (by rw [zeros_len];omega),List.nil_append,List.drop_drop,show k+(n - k)=n by omega]
    rw [e] at hok ⊢;have h2:=of_eq (h n hn hok) hj;rw [h2,zz_get];split
    · rw [zz_get,if_pos om_] at h2;exact h2.symm
    · rfl
  · rw [zz_get];split
    · rw [zz_get,if_pos om_]
    · rfl
theorem torn_whole {room:Nat} {p:Pt} {m:Nat} (hm:m≤64) (hok:rdOk ((hdrS p).take m++zeros (64 - m)) room=true):(hdrS p).take m++zeros (64 - m)=hdrS p:=by
  have hl:=hdrS_len p;have hls:=tz_len hm hl;have hb:=ok_bytes hok hls;have hm17:17≤m:=by
    rcases Nat.lt_or_ge m 17 with h | h
    · have h0:=hb 16 om_;rw [tz_get m _ hl hm,tz_get m _ hl hm,if_neg om_,if_neg om_,turnB_0] at h0;exact absurd h0 ne255
    · exact h
  have hz:∀ j,34≤j→(hdrS p).getD j 0=0:=fun j hj=>by
    have e:hdrS p=(ptS p++turnS (ptS p))++zeros 30:=rfl;have h34:(ptS p++turnS (ptS p)).length=34:=by simp [turnS,ptS_len]
    rw [e,List.getD_eq_getElem?_getD,List.getElem?_append_right om_];unfold zeros;rw [List.getElem?_replicate];split <;> rfl
  have key:=eq_bytes (m:=64) (a:=(hdrS p).take m++zeros (64 - m)) (b:=hdrS p) om_ om_ fun j hj=>by
    rw [tz_get m _ hl hm];split
    · rfl
    · rcases Nat.lt_or_ge j 34 with h | h
      · have h0:=hb (j - 17) om_;rw [show 17+(j - 17)=j by omega,tz_get m _ hl hm,tz_get m _ hl hm,if_neg om_,if_pos om_] at h0;have h1:=hdr_bytes p (j - 17) om_;rw [show 17+(j - 17)=j by omega] at h1;exact h0.trans h1.symm
      · exact (hz j h).symm
  have t1:((hdrS p).take m++zeros (64 - m)).take 64=(hdrS p).take m++zeros (64 - m):=List.take_of_length_le om_;have t2:(hdrS p).take 64=hdrS p:=List.take_of_length_le om_;exact t1.symm.trans (key.trans t2)
end Go.Gx
namespace Go.Gx
open Go.Proofs
structure Fl where
  keep:List Bool
  torn:Int
  cut:Int
def ndrop (K:Fl) (k:Nat):Nat:=if ((k:Nat):Int)+1=K.torn then (min (max K.cut 0) 64).toNat else if K.keep.getD k false then 64 else 0
theorem ndrop_le (K:Fl) (k:Nat):ndrop K k≤64:=by unfold ndrop;split;omega;split <;> omega
def dropL (K:Fl):Nat→List (Nat × Str)→List Str→List Str
  | _,[],pl=>pl
  | k,x :: l,pl=>dropL K (k+1) l (pl.set x.1 (x.2.take (ndrop K k)++(pl.getD x.1 []).drop (ndrop K k)))
def dropD (D:Dk) (K:Fl):Dk:={ pl:=dropL K 0 D.ca D.pl,ca:=[],armed:=0,ops:=D.ops,dead:=true }
theorem dropL_len (K:Fl):∀ (l:List (Nat × Str)) (k:Nat) (pl:List Str),(dropL K k l pl).length=pl.length
  | [],_,_=>rfl
  | x :: l,k,pl=>by rw [dropL,dropL_len K l,List.length_set]
theorem dropL_get (K:Fl):∀ (l:List (Nat × Str)) (k:Nat) (pl:List Str),(l.map (·.1)).Nodup→(∀ x∈l,x.1<pl.length)→∀ i,
    (dropL K k l pl).getD i []=pl.getD i []∧i∉l.map (·.1)∨∃ s n,(i,s)∈l∧n≤64∧(dropL K k l pl).getD i []=s.take n++(pl.getD i []).drop n
  | [],_,_,_,_,i=>.inl ⟨rfl,by simp⟩
  | x :: l,k,pl,hn,hlt,i=>by
    simp only [List.map_cons,List.nodup_cons] at hn;have hx:=hlt x (by simp);have ih:=dropL_get K l (k+1) (pl.set x.1 (x.2.take (ndrop K k)++(pl.getD x.1 []).drop (ndrop K k))) hn.2 (fun y hy=>by rw [List.length_set];exact hlt y (List.mem_cons_of_mem _ hy)) i;rw [getD_set0 hx] at ih;rw [dropL];by_cases he:i=x.1
    · subst he;rw [if_pos rfl] at ih;rcases ih with ⟨h1,-⟩ | ⟨s,n,h1,-⟩
      · exact .inr ⟨x.2,ndrop K k,by simp,ndrop_le K k,h1⟩
      · exact absurd (List.mem_map_of_mem (f:=(·.1)) h1) hn.1
    · rw [if_neg he] at ih;rcases ih with ⟨h1,h2⟩ | ⟨s,n,h1,h2,h3⟩
      · exact .inl ⟨h1,by simp only [List.map_cons,List.mem_cons,not_or];exact ⟨he,h2⟩⟩
      · exact .inr ⟨s,n,List.mem_cons_of_mem _ h1,h2,h3⟩
def wrF (D:Dk) (K:Fl) (i:Nat) (s:Str):Dk:=if D.armed=1 then dropD (wrD D i s) K else { wrD D i s with armed:=D.armed - 1 }
def flF (D:Dk) (K:Fl):Dk:=if D.armed=1 then dropD { D with ops:=D.ops+1 } K else { flD D with armed:=D.armed - 1 }
def runW (K:Fl):Dk→List (Nat × Str)→Dk
  | D,[]=>D
  | D,x :: r=>if (wrF D K x.1 x.2).dead then wrF D K x.1 x.2 else runW K (wrF D K x.1 x.2) r
theorem wrF_dead {D:Dk} (hd:D.dead=false) (K:Fl) (i:Nat) (s:Str):(wrF D K i s).dead=decide (D.armed=1):=by
  unfold wrF;split
  · rename_i h;rw [decide_eq_true h];rfl
  · rename_i h;rw [decide_eq_false h];exact hd
theorem flF_dead {D:Dk} (hd:D.dead=false) (K:Fl):(flF D K).dead=decide (D.armed=1):=by
  unfold flF;split
  · rename_i h;rw [decide_eq_true h];rfl
  · rename_i h;rw [decide_eq_false h];exact hd
theorem runW_app (K:Fl):∀ (a:List (Nat × Str)) (D:Dk) (b:List (Nat × Str)),D.dead=false→runW K D (a++b)=if (runW K D a).dead then runW K D a else runW K (runW K D a) b
  | [],D,b,hd=>by
    have e:runW K D []=D:=rfl;rw [List.nil_append,e,hd,if_neg (by decide)]
  | x :: a,D,b,hd=>by
    rw [List.cons_append,runW,runW];by_cases h:(wrF D K x.1 x.2).dead=true
    · rw [if_pos h,if_pos h,if_pos h]
    · rw [if_neg h,if_neg h];exact runW_app K a _ b (by simpa using h)
theorem runW_case (K:Fl):∀ (l:List (Nat × Str)) (D:Dk),D.dead=false→
    (runW K D l={ D with ca:=D.ca++l,ops:=D.ops+l.length,armed:=D.armed - l.length }∧(D.armed=0∨l.length<D.armed))∨
    (runW K D l).dead=true∧(∃ m,m≤l.length∧(runW K D l).pl=dropL K 0 (D.ca++l.take m) D.pl)∧(runW K D l).ca=[]∧(runW K D l).armed=0∧D.ops≤(runW K D l).ops∧(runW K D l).ops≤D.ops+l.length
  | [],D,hd=>.inl ⟨by simp [runW],by simp;omega⟩
  | x :: l,D,hd=>by
    have hdx:=wrF_dead hd K x.1 x.2;by_cases ha:D.armed=1
    · right;have e:wrF D K x.1 x.2=dropD (wrD D x.1 x.2) K:=by unfold wrF;rw [if_pos ha]
      have er:runW K D (x :: l)=dropD (wrD D x.1 x.2) K:=by
        rw [runW,if_pos (by rw [hdx];simpa using ha),e]
      rw [er];refine ⟨rfl,⟨1,by simp,?_⟩,rfl,rfl,?_,?_⟩
      · simp [dropD,wrD]
      · show D.ops≤D.ops+1;omega
      · show D.ops+1≤_;simp
    · have e:wrF D K x.1 x.2={ wrD D x.1 x.2 with armed:=D.armed - 1 }:=by unfold wrF;rw [if_neg ha]
      have hdf:(wrF D K x.1 x.2).dead=false:=by rw [hdx];simpa using ha
      have er:runW K D (x :: l)=runW K (wrF D K x.1 x.2) l:=by rw [runW,if_neg (by rw [hdf];decide)]
      have ih:=runW_case K l (wrF D K x.1 x.2) hdf;rw [er];rcases ih with ⟨h1,h2⟩ | ⟨h1,⟨m,hm,h2⟩,h3,h4,h5,h6⟩
      · left;rw [e] at h2;dsimp only at h2;refine ⟨?_,by simp only [List.length_cons];omega⟩;rw [h1,e];simp only [wrD,List.append_assoc,List.cons_append,List.nil_append,List.length_cons];congr 1
        · omega
        · omega
      · right;have eo:(wrF D K x.1 x.2).ops=D.ops+1:=by rw [e];rfl
        rw [eo] at h5 h6;rw [e] at h2;dsimp only [wrD] at h2;refine ⟨h1,⟨m+1,by simp only [List.length_cons];omega,?_⟩,h3,h4,by omega,by simp only [List.length_cons];omega⟩;rw [e];dsimp only [wrD] at h2 ⊢;rw [h2,List.take_succ_cons,List.append_assoc,List.cons_append,List.nil_append]
def comF (D:Dk) (K:Fl) (ws:List (Nat × Str)) (sl:Nat) (hd:Str):Dk:=
  let A:=runW K D ws
  if A.dead then A else
    let B:=wrF A K sl (zeros 64)
    if B.dead then B else
      let C:=flF B K
      if C.dead then C else
        let E:=wrF C K sl hd
        if E.dead then E else flF E K
theorem comF_case {D:Dk} (K:Fl) (ws:List (Nat × Str)) (sl:Nat) (hdr:Str) (hd:D.dead=false) (hca:D.ca=[]):
    (comF D K ws sl hdr).ca=[]∧D.ops≤(comF D K ws sl hdr).ops∧(comF D K ws sl hdr).ops≤D.ops+ws.length+4∧
    ((comF D K ws sl hdr).dead=true∧(comF D K ws sl hdr).armed=0∧((∃ m,(comF D K ws sl hdr).pl=dropL K 0 ((ws++[(sl,zeros 64)]).take m) D.pl)∨(comF D K ws sl hdr).pl=dropL K 0 [(sl,hdr)] (apD D.pl (ws++[(sl,zeros 64)])))∨
     (comF D K ws sl hdr).dead=false∧(comF D K ws sl hdr).pl=apD (apD D.pl (ws++[(sl,zeros 64)])) [(sl,hdr)]):=by
  unfold comF;rcases runW_case K ws D hd with ⟨h1,h2⟩ | ⟨h1,⟨m,hm,h2⟩,h3,h4,h5,h6⟩
  · have eA:(runW K D ws).dead=false:=by rw [h1];exact hd
    dsimp only;rw [eA,if_neg (by decide),h1,hca,List.nil_append];clear h1 eA;unfold wrF flF;by_cases g1:D.armed - ws.length=1
    · simp only [g1,if_pos,dropD,wrD];refine ⟨trivial,by omega,by omega,.inl ⟨trivial,trivial,.inl ⟨ws.length+1,?_⟩⟩⟩;rw [List.take_of_length_le (by simp)]
    · simp only [if_neg g1,wrD,hd,Bool.false_eq_true,if_false];by_cases g2:D.armed - ws.length - 1=1
      · simp only [g2,if_pos,dropD];refine ⟨trivial,by omega,by omega,.inl ⟨trivial,trivial,.inl ⟨ws.length+1,?_⟩⟩⟩;rw [List.take_of_length_le (by simp)]
      · simp only [if_neg g2,flD,hd,Bool.false_eq_true,if_false];by_cases g3:D.armed - ws.length - 1 - 1=1
        · simp only [g3,if_pos,dropD,List.nil_append];exact ⟨trivial,by omega,by omega,.inl ⟨trivial,trivial,.inr trivial⟩⟩
        · simp only [if_neg g3,hd,Bool.false_eq_true,if_false,List.nil_append];by_cases g4:D.armed - ws.length - 1 - 1 - 1=1
          · simp only [g4,if_pos,dropD];exact ⟨trivial,by omega,by omega,.inl ⟨trivial,trivial,.inr trivial⟩⟩
          · simp only [if_neg g4,hd];exact ⟨trivial,by omega,by omega,.inr ⟨trivial,trivial⟩⟩
  · dsimp only;rw [h1,if_pos rfl];refine ⟨h3,h5,by omega,.inl ⟨h1,h4,.inl ⟨m,?_⟩⟩⟩;rw [h2,hca,List.nil_append,List.take_append_of_le_length hm]
end Go.Gx
