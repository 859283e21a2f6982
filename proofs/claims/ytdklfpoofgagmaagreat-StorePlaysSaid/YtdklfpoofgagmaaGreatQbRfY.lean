/- The document's store: edits done. Conditions: none. -/
import Derived.Laws.Bits64b
import Derived.Test.YtdklfpoofgagmaaGreatQbStoD
import Derived.Test.YtdklfpoofgagmaaGreatQbWaf2
import Derived.Test.YtdklfpoofgagmaaGreatQbOct2
namespace Go.Gx
open Go.Proofs Go.Sort
theorem krfy_ag70:aggT Tryz.prog 70 3=true:=by kernel_rfl
theorem krfy_el70:elT Tryz.prog 70 3=true:=by kernel_rfl
theorem krfy_fo70_0:fieldOff Tryz.prog 70 0=some 0:=by kernel_rfl
theorem krfy_fo70_2:fieldOff Tryz.prog 70 2=some 2:=by kernel_rfl
theorem krfy_mixed:Tryz.prog.follows .mixedOrders=true:=by kernel_rfl
theorem krfy_oc4:oneCellT Tryz.prog 4=true:=by kernel_rfl
theorem krfy_oc9:oneCellT Tryz.prog 9=true:=by kernel_rfl
theorem krfy_sz70:(Tryz.prog.info? 70).map (·.size)=some 3:=by kernel_rfl
theorem come1_len {h:List Ed} {e:Ed}:(come1 h e).length≤h.length+1:=by
  induction h with
  | nil=>rw [come1];split <;> simp
  | cons a h ih=>
    rw [come1]
    repeat' split
    all_goals simp
    all_goals omega
theorem comes_len0 {g h:List Ed}:(comes g h).length≤g.length+h.length:=by
  induction h generalizing g with
  | nil=>exact Nat.le_refl _
  | cons a h ih=>
    have h1:=ih (g:=come1 g a);have h2:=come1_len (h:=g) (e:=a);have e:comes g (a :: h)=comes (come1 g a) h:=rfl;rw [e,List.length_cons];omega
def behindE (e:Ed):List Ed→List Ed
  | []=>[]
  | x :: r=>if x.key=e.key then r else x :: r
theorem come1_split {h:List Ed} {e:Ed} {i:Nat} (hi:i≤h.length) (hlt:∀ j,j<i→ltStr (h.getD j default).key e.key=true) (hs:i<h.length→ltStr (h.getD i default).key e.key=false):
    come1 h e=h.take i++((if e.gone then [] else [e])++behindE e (h.drop i)):=by
  induction i generalizing h with
  | zero=>
    cases h with
    | nil=>simp [come1,behindE]
    | cons x r=>
      have h0:=hs (by simp);have h0:ltStr x.key e.key=false:=h0;rw [come1,if_neg (by rw [h0];decide)];simp [behindE]
  | succ i ih=>
    cases h with
    | nil=>simp at hi
    | cons x r=>
      have h0:ltStr x.key e.key=true:=hlt 0 om_;rw [come1,if_pos h0,ih (by simpa using hi) (fun j hj=>hlt (j+1) om_) (fun hj=>hs (by simpa using hj))];simp
theorem behind_len (e:Ed) (l:List Ed):(behindE e l).length≤l.length:=by
  cases l with
  | nil=>simp [behindE]
  | cons x r=>rw [behindE];split <;> simp
theorem lt_less (a b:Str):ltStr a b=Op.bytesLess a b:=by simp [Go.Proofs.bytesLess_eq,ltStr]
theorem eds_flat (l:List Ed):(l.map edV).flatten.length=l.length * 3:=by
  rw [flat_len (k:=3) (fun r hr=>by obtain ⟨e,-,rfl⟩:=List.mem_map.1 hr;rfl),List.length_map]
theorem eds_one (l:List Ed):∀ u∈(l.map edV).flatten,u.oneCell'=true:=fun u hu=>by
  obtain ⟨r,hr,hu⟩:=List.mem_flatten.1 hu;obtain ⟨e,-,rfl⟩:=List.mem_map.1 hr;simp only [edV,List.mem_cons,List.not_mem_nil,or_false] at hu;rcases hu with rfl | rfl | rfl <;> rfl
theorem eds_cut (l:List Ed) (i:Nat):(l.map edV).flatten.drop (i * 3)=((l.drop i).map edV).flatten∧(l.map edV).flatten.take (i * 3)=((l.take i).map edV).flatten:=by
  have hr:∀ r∈l.map edV,r.length=3:=fun r hr=>by obtain ⟨e,-,rfl⟩:=List.mem_map.1 hr;rfl
  obtain ⟨h1,h2⟩:=flatk_take hr i;rw [← h1,← h2,List.map_take,List.map_drop];exact ⟨rfl,rfl⟩
theorem row_edV {A:Nat→Prop} {w:World} {p:Option Addr} {row:Nat→List Value} {l:List Ed} (h:RecRow EdC 3 A w p row l):((List.range l.length).map row).flatten=(l.map edV).flatten:=by
  congr 1;refine List.ext_getElem (by simp) fun i h1 h2=>?_
  have hi:i<l.length:=by simpa using h1
  have:=(h.each i hi).1;rw [List.getD_eq_getElem?_getD,List.getElem?_eq_getElem hi] at this;simpa using this
theorem eds_holds {A:Nat→Prop} {w:World} {v:Value} {l:List Ed} (h:EdsAt A w v l):∃ p c,v=.slice p l.length c∧l.length≤c∧HoldsN w (.slice p l.length c) l.length (l.map edV).flatten∧∀ e∈l,EdOk e:=by
  obtain ⟨p,c,row,rfl,h1,h2,h3,hR⟩:=h;refine ⟨p,c,rfl,h1,by rw [← row_edV hR];exact hR.holds,fun e he=>?_⟩;obtain ⟨i,hi,rfl⟩:=List.getElem_of_mem he;have:=(hR.each i hi).2
  rwa [List.getD_eq_getElem?_getD,List.getElem?_eq_getElem hi] at this
theorem eds_holdsN {A:Nat→Prop} {w:World} {p:Option Addr} {c:Nat} {l:List Ed} (h:EdsAt A w (.slice p l.length c) l):HoldsN w (.slice p l.length c) l.length (l.map edV).flatten:=by
  obtain ⟨p',c',e,-,h2,-⟩:=eds_holds h;rw [e];exact h2
theorem eds_cell {A:Nat→Prop} {w:World} {p:Option Addr} {c:Nat} {l:List Ed} (h:EdsAt A w (.slice p l.length c) l) {i:Nat} (hi:i<l.length):∃ b o,p=some ⟨b,o,none⟩∧∀ j,j<3→w.cell? ⟨b,o+i * 3+j,none⟩=(edV (l.getD i default))[j]? := by
  obtain ⟨p',c',row,e,h1,h2,h3,hR⟩:=h;simp only [Value.slice.injEq] at e;obtain ⟨rfl,-,rfl⟩:=e;obtain ⟨b,o,e,-,hc⟩:=hR.elem hi;refine ⟨b,o,e,fun j hj=>?_⟩;rw [hc j hj,(hR.each i hi).1]
theorem RecRow.drop {α : Type} [Inhabited α] {C:Thing α} {k:Nat} {A:Nat→Prop} {w:World} {p:Option Addr} {row:Nat→List Value} {l:List α} (h:RecRow C k A w p row l) {cap:Nat} (hc:l.length≤cap) (j:Nat):
    RecRow C k A w (if cap=j then p else p.map (·.add (j * k))) (fun i=>row (j+i)) (l.drop j):=by
  have hg:∀ i,i<(l.drop j).length→(l.drop j).getD i default=l.getD (j+i) default:=fun i hi=>by
    simp only [List.getD_eq_getElem?_getD,List.getElem?_drop]
  refine ⟨fun hne=>?_,fun i hi=>h.len _ (by rw [List.length_drop] at hi;omega),fun i hi=>?_⟩
  · have hlt:j<l.length:=by
      refine Decidable.byContradiction fun hh=>hne (List.drop_of_length_le om_)
    obtain ⟨b,o,rfl,hA,hcell⟩:=h.at_ (by rintro rfl;simp at hlt);rw [if_neg om_];refine ⟨b,o+j * k,?_,hA,fun i m hi hm=>?_⟩
    · simp only [Option.map_some,addp]
    · rw [List.length_drop] at hi;rw [← hcell (j+i) m om_ hm,Nat.add_mul];congr 2;omega
  · rw [hg i hi];exact h.each _ (by rw [List.length_drop] at hi;omega)
theorem eds_drop {A:Nat→Prop} {w:World} {p:Option Addr} {c:Nat} {l:List Ed} (h:EdsAt A w (.slice p l.length c) l) (j:Nat) (hj:j≤l.length):EdsAt A w (.slice (if c=j then p else p.map (·.add (j * 3))) (l.length - j) (c - j)) (l.drop j):=by
  obtain ⟨p',c',row,e,h1,h2,h3,hR⟩:=h;simp only [Value.slice.injEq] at e;obtain ⟨rfl,-,rfl⟩:=e;refine ⟨_,_,_,by rw [List.length_drop],by rw [List.length_drop];omega,by omega,by rw [List.length_drop];omega,hR.drop h1 j⟩
theorem comes_sub {h l:List Ed} {e:Ed} (he:e∈comes h l):e∈h∨e∈l:=by
  induction l generalizing h with
  | nil=>exact .inl he
  | cons x l ih=>
    rcases ih (h:=come1 h x) he with h1 | h1
    · rcases come1_mem h1 with rfl | h1
      · exact .inr (by simp)
      · exact .inl h1
    · exact .inr (List.mem_cons_of_mem _ h1)
theorem comes_takeE {h l:List Ed} {k:Nat} (hk:k<l.length):comes h (l.take (k+1))=come1 (comes h (l.take k)) (l.getD k default):=by
  rw [take_snoc (d:=default) hk,comes_append];rfl
theorem behind_pos {e x:Ed} {l:List Ed} {i:Nat} (hi:i<l.length) (hx:l.getD i default=x):behindE e (l.drop i)=if x.key=e.key then l.drop (i+1) else l.drop i:=by
  have e1:l.drop i=x :: l.drop (i+1):=by
    rw [List.drop_eq_getElem_cons hi,← hx,List.getD_eq_getElem?_getD,List.getElem?_eq_getElem hi];rfl
  rw [e1];rfl
theorem do23 (A B:Nat→Prop) (v u:Value) (h l:List Ed) (w:World) (hv:EdsAt A w v h) (hu:EdsAt B w u l) (hl:h.length+l.length≤1000000):
    Ret Tryz.prog 34 #[v,u] w fun r w'=>(∃ p c,r=.slice p (comes h l).length c∧Own w' w.heap.size 70 3 (.slice p (comes h l).length c) (comes h l).length ((comes h l).map edV).flatten∧∀ e∈comes h l,EdOk e)∧Bel w w':=by
  obtain ⟨pv,cv,rfl,-,hh,hokh⟩:=eds_holds hv;obtain ⟨pu,cu,rfl,-,-,hoku⟩:=eds_holds hu;have hU:EdsAt (fun k=>w.heap.size≤k) w (.slice pu l.length cu) l:=hu.up.mono fun k _ hk=>.inr hk
  have hoks:∀ k,∀ e∈comes h (l.take k),EdOk e:=fun k e he=>(comes_sub he).elim (hokh e) (fun hm=>hoku e (List.mem_of_mem_take hm))
  refine ret_of_W Tryz.func34 rfl (Nat.le_of_ble_eq_true rfl) (res1 rfl) ?_;have hB:=Gr.refl (fun _=>False) w;refine W.seq (W.region (L.val (x_as (v:=.slice _ _ _) rfl) rfl ?_));refine L.nil (thn_n (W.seq (W.region (L.bs0 Tryz.underlying31 krfy_el70 rfl (fun w10 hO10 hw hz10=>?_)))));have hB:=hB.carry hw;have hU:=hU.carry hw;have hh:=hh.carry hw;refine L.val (x_mv (v:=.slice _ _ _) rfl) rfl ?_;refine L.appendN (m:=h.length) Tryz.underlying31 krfy_el70 rfl rfl rfl hO10 (eds_flat h) hh (eds_one h) om_ om_ (fun v12 w12 hO12 hg hob12=>?_);have hlO:=fun j (e:some j=_)=>(Own.lt hO10 (j:=j) e).1
  have hB:=hB.step hg (fun i hi e=>by have:=hlO i e;omega);have hU:=hU.carryR hg (fun i e=>hlO i e);rw [Nat.zero_add,List.nil_append] at hO12;obtain ⟨a12,c12,e12,-⟩:=own_shape hO12;subst e12;refine L.val (x_as (v:=.slice _ _ _) rfl) rfl ?_;refine L.nil (thn_n (W.seq (W.seq (W.region (L.val (x_as (v:=.int _ _) rfl) rfl ?_)))));refine L.nil (thn_n (W.block (W.loop (fun m' E w'=>∃ (k:Nat) (v5:Value),m'=l.length - k∧E 1=.slice pu l.length cu∧E 5=v5∧E 6=.int .i64 (k:Nat)∧(k≤l.length)∧(Bel w w')∧(EdsAt (fun k=>w.heap.size≤k) w' (.slice pu l.length cu) l)∧(Own w' w.heap.size 70 3 v5 (comes h (l.take k)).length ((comes h (l.take k)).map edV).flatten)) (l.length) ?_ ?_)))
  ·exact ⟨0,_,by omega,vi_,vi_,vi_,ao_,ao_,ao_,(by exact hO12)⟩
  ·rintro _ E wL13 ⟨k,v5,em,e1,e5,e6,hk,hB,hU,hO⟩;rw [upd_self e1,upd_self e5,upd_self e6];refine W.seq (W.seq (W.region (L.val (x_mv (v:=.int _ _) rfl) rfl ?_)));refine L.val (x_mv (v:=.slice _ _ _) rfl) rfl ?_;refine L.val (x_len_slice Tryz.underlying31 rfl) rfl ?_;refine L.val (x_lss rfl rfl) rfl ?_;refine L.nil (thn_n (W.cond (b:=_) rfl (fun g16=>?_) (fun g16=>?_)))
   ·have h16:=of_decide_eq_true g16;have hlt:k<l.length:=by omega
    obtain ⟨bu,ou,rfl,hcu⟩:=eds_cell hU hlt;obtain ⟨cur,hcur⟩:∃ cur,cur=comes h (l.take k):=⟨_,rfl⟩;have hok:=hoks k;have hcl:=comes_len0 (g:=h) (h:=l.take k);have hct:=comes_takeE (h:=h) hlt;rw [List.length_take] at hcl;rw [← hcur] at hO hok hcl hct;obtain ⟨a5,c5,e5s,hc5⟩:=own_shape hO;subst e5s;obtain ⟨e,he⟩:∃ e,e=l.getD k default:=⟨_,rfl⟩;rw [← he] at hcu hct;have heok:EdOk e:=by rw [he,List.getD_eq_getElem?_getD,List.getElem?_eq_getElem hlt];exact hoku _ (List.getElem_mem hlt)
    refine W.skip (thn_n (W.seq (W.block (W.seq (W.region (L.val (x_as (v:=.int _ _) rfl) rfl ?_))))));refine L.nil (thn_n (W.cut (fun D' E' w'=>D'=[]∧∃ i:Nat,E' 1=.slice (some ⟨bu,ou,none⟩) l.length cu∧E' 5=.slice a5 cur.length c5∧E' 6=.int .i64 (k:Nat)∧E' 7=.int .i64 (i:Nat)∧i≤cur.length∧(∀ j,j<i→ltStr (cur.getD j default).key e.key=true)∧(i<cur.length→ltStr (cur.getD i default).key e.key=false)∧Bel w w'∧EdsAt (fun k=>w.heap.size≤k) w' (.slice (some ⟨bu,ou,none⟩) l.length cu) l∧Own w' w.heap.size 70 3 (.slice a5 cur.length c5) cur.length (cur.map edV).flatten) ?_ ?_))
    ·refine W.block (W.loop (fun m' E w'=>∃ (i:Nat),m'=cur.length - i∧E 1=.slice (some ⟨bu,ou,none⟩) l.length cu∧E 5=.slice a5 cur.length c5∧E 6=.int .i64 (k:Nat)∧E 7=.int .i64 (i:Nat)∧(i≤cur.length)∧(Bel w w')∧(EdsAt (fun k=>w.heap.size≤k) w' (.slice (some ⟨bu,ou,none⟩) l.length cu) l)∧(Own w' w.heap.size 70 3 (.slice a5 cur.length c5) cur.length (cur.map edV).flatten)∧(∀ j,j<i→ltStr (cur.getD j default).key e.key=true)) (cur.length) ?_ ?_)
     ·exact ⟨0,by omega,vi_,vi_,vi_,vi_,ao_,ao_,ao_,ao_,(by exact fun j hj=>absurd hj om_)⟩
     ·rintro _ E wL19 ⟨i,em,e1,e5,e6,e7,hi,hB,hU,hO,hlts⟩;rw [upd_self e1,upd_self e5,upd_self e6,upd_self e7];refine W.seq (W.seq (W.drawB krfy_mixed kr_ ?_));refine LQ.val (fun w hw=>x_mv (v:=.int _ _) rfl) rfl ?_;refine LQ.val (fun w hw=>x_mv (v:=.slice _ _ _) rfl) rfl ?_;refine LQ.val (fun w hw=>x_len_slice Tryz.underlying31 rfl) rfl ?_;refine LQ.val (fun w hw=>x_lss rfl rfl) rfl ?_;refine LQ.val (fun w hw=>x_mv (v:=.bool _) rfl) rfl ?_;refine LQ.splitat (dj:=23) (b:=_) rfl (fun g23=>?_) (fun g23=>?_)
      ·have h23:=of_decide_eq_true g23;have hii:i<cur.length:=by omega
       obtain ⟨b5,o5,rfl,hc5c⟩:=eds_cell (own_eds hO hok om_) hii;obtain ⟨bu',ou',eu,hcu⟩:=eds_cell hU hlt;cases eu;rw [← he] at hcu;refine LQ.gyes' (dj:=23) (b:=_) rfl rfl g23 ?_;refine LQ.val (fun w hw=>x_mv (v:=.slice _ _ _) rfl) rfl ?_;refine LQ.gyes' (dj:=23) (b:=_) rfl rfl g23 ?_;refine LQ.val (fun w hw=>x_mv (v:=.int _ _) rfl) rfl ?_;refine LQ.gyes' (dj:=23) (b:=_) rfl rfl g23 ?_;refine LQ.val (fun w hw=>x_ia (j:=i) Tryz.underlying31 krfy_sz70 rfl rfl om_ om_) rfl ?_;refine LQ.gyes' (dj:=23) (b:=_) rfl rfl g23 ?_;refine LQ.val (fun w hw=>x_fa krfy_fo70_0 rfl) rfl ?_;refine LQ.gyes' (dj:=23) (b:=_) rfl rfl g23 ?_;refine LQ.val (fun w hw=>x_ld (v:=S _) krfy_oc9 rfl (hw.keep (hc5c 0 om_))) rfl ?_;refine LQ.gyes' (dj:=23) (b:=_) rfl rfl g23 ?_;refine LQ.val (fun w hw=>x_mv (v:=.slice _ _ _) rfl) rfl ?_;refine LQ.gyes' (dj:=23) (b:=_) rfl rfl g23 ?_;refine LQ.val (fun w hw=>x_mv (v:=.int _ _) rfl) rfl ?_;refine LQ.gyes' (dj:=23) (b:=_) rfl rfl g23 ?_;refine LQ.val (fun w hw=>x_ia (j:=k) Tryz.underlying31 krfy_sz70 rfl rfl om_ om_) rfl ?_;refine LQ.gyes' (dj:=23) (b:=_) rfl rfl g23 ?_;refine LQ.val (fun w hw=>x_fa krfy_fo70_0 rfl) rfl ?_;refine LQ.gyes' (dj:=23) (b:=_) rfl rfl g23 ?_;refine LQ.val (fun w hw=>x_ld (v:=S _) krfy_oc9 rfl (hw.keep (hcu 0 om_))) rfl ?_;refine LQ.gyes' (dj:=23) (b:=_) rfl rfl g23 ?_;refine LQ.val (fun w hw=>x_lts rfl rfl) rfl ?_;refine LQ.val (fun w hw=>x_pick_t (v:=.bool _) (congrArg Value.bool g23) rfl) rfl ?_;refine LQ.nil ?_;intro w19 hw;have hB:=hB.carry hw;have hU:=hU.carry hw;have hO:=hO.carry hw;refine thn_n (W.cond (b:=_) rfl (fun g34=>?_) (fun g34=>?_))
       ·have h34:=g34;refine W.skip (thn_n (W.block (W.region (L.val (x_mv (v:=.int _ _) rfl) rfl ?_))));refine L.val (x_add rfl rfl (wr64 om_)) rfl ?_;refine L.val (x_as (v:=.int _ _) rfl) rfl ?_;refine L.nil (blk_n (thn_n ⟨rfl,?_⟩));refine ⟨_,?_,i+1,rfl,vi_,vi_,vi_,vi_,ao_,ao_,ao_,ao_,(by exact fun j hj=>by rcases Nat.lt_succ_iff_lt_or_eq.1 hj with h1 | rfl;exact hlts j h1;exact (lt_less _ _).trans h34)⟩;omega
       ·have h34:=g34;refine W.exit (thn_x (thn_x (blk_hit ?_)));refine thn_n ?_;exact ⟨rfl,i,rfl,rfl,rfl,rfl,hi,hlts,by first | exact fun _=>(lt_less _ _).trans h34 | exact fun h=>absurd h om_,hB,hU,hO⟩
      ·have h23:=dlt_f g23;(iterate 11 refine LQ.gno (dj:=23) (b:=_) rfl rfl g23 rfl ?_);refine LQ.val (fun w hw=>x_pick_f (v:=.bool _) (congrArg Value.bool g23) rfl) rfl ?_;refine LQ.nil ?_;intro w19 hw;have hB:=hB.carry hw;have hU:=hU.carry hw;have hO:=hO.carry hw;refine thn_n (W.cond (b:=false) rfl (fun h=>nomatch h) (fun _=>?_));refine W.exit (thn_x (thn_x (blk_hit ?_)));refine thn_n ?_;exact ⟨rfl,i,rfl,rfl,rfl,rfl,hi,hlts,by first | exact fun _=>(lt_less _ _).trans h34 | exact fun h=>absurd h om_,hB,hU,hO⟩
    ·rintro D E w38 ⟨rfl,i,e1,e5,e6,e7,hi,hlts,hge,hB,hU,hO⟩;rw [upd_self e1,upd_self e5,upd_self e6,upd_self e7];have hB38:=hB.size;have hOlt:=fun j (hj:some j=(Value.slice a5 cur.length c5).ownBlock)=>(Own.lt hO hj).2
     have hE8:EdsAt (fun j=>w38.heap.size≤j) w38 (.slice (if c5=i then a5 else a5.map (·.add (i * 3))) (cur.drop i).length (c5 - i)) (cur.drop i):=by
       rw [List.length_drop];exact (eds_drop (own_eds hO hok om_) i hi).up.mono fun k _ hk=>.inr hk
     have hdl:(cur.drop i).length=cur.length - i:=List.length_drop;refine W.seq (W.region (L.val (x_mv (v:=.slice _ _ _) rfl) rfl ?_));refine L.val (x_mv (v:=.int _ _) rfl) rfl ?_;refine L.val (x_slog (j:=i) Tryz.underlying31 krfy_sz70 rfl rfl rfl hi) rfl ?_;rw [← hdl];refine L.val (x_as (v:=.slice _ _ _) rfl) rfl ?_;refine L.nil (thn_n (W.cut (fun D' E' w'=>D'=[]∧∃ p8 c8,E' 1=.slice (some ⟨bu,ou,none⟩) l.length cu∧E' 5=.slice a5 cur.length c5∧E' 6=.int .i64 (k:Nat)∧E' 7=.int .i64 (i:Nat)∧E' 8=.slice p8 (behindE e (cur.drop i)).length c8∧Bel w w'∧EdsAt (fun k=>w.heap.size≤k) w' (.slice (some ⟨bu,ou,none⟩) l.length cu) l∧Own w' w.heap.size 70 3 (.slice a5 cur.length c5) cur.length (cur.map edV).flatten∧EdsAt (fun j=>w'.heap.size≤j) w' (.slice p8 (behindE e (cur.drop i)).length c8) (behindE e (cur.drop i))) ?_ ?_))
     ·refine W.seq (W.drawB krfy_mixed kr_ ?_);refine LQ.val (fun w hw=>x_mv (v:=.slice _ _ _) rfl) rfl ?_;refine LQ.val (fun w hw=>x_len_slice Tryz.underlying31 rfl) rfl ?_;refine LQ.val (fun w hw=>x_gtr rfl rfl) rfl ?_;refine LQ.val (fun w hw=>x_mv (v:=.bool _) rfl) rfl ?_;refine LQ.splitat (dj:=44) (b:=_) rfl (fun g44=>?_) (fun g44=>?_)
      ·have h44:=of_decide_eq_true g44;have hi8:0<(cur.drop i).length:=by omega
       obtain ⟨b8,o8,hp8,hc8c⟩:=eds_cell hE8 hi8;rw [hp8] at hE8 ⊢;obtain ⟨bu',ou',eu,hcu⟩:=eds_cell hU hlt;cases eu;rw [← he] at hcu;have e80:(cur.drop i).getD 0 default=cur.getD i default:=by simp [List.getD_eq_getElem?_getD]
       rw [e80] at hc8c;have hii:i<cur.length:=by omega
       refine LQ.gyes' (dj:=44) (b:=_) rfl rfl g44 ?_;refine LQ.val (fun w hw=>x_mv (v:=.slice _ _ _) rfl) rfl ?_;refine LQ.gyes' (dj:=44) (b:=_) rfl rfl g44 ?_;refine LQ.val (fun w hw=>x_ia (j:=0) Tryz.underlying31 krfy_sz70 rfl rfl rfl om_) rfl ?_;refine LQ.gyes' (dj:=44) (b:=_) rfl rfl g44 ?_;refine LQ.val (fun w hw=>x_fa krfy_fo70_0 rfl) rfl ?_;refine LQ.gyes' (dj:=44) (b:=_) rfl rfl g44 ?_;refine LQ.val (fun w hw=>x_ld (v:=S _) krfy_oc9 rfl (hw.keep (hc8c 0 om_))) rfl ?_;refine LQ.gyes' (dj:=44) (b:=_) rfl rfl g44 ?_;refine LQ.val (fun w hw=>x_mv (v:=.slice _ _ _) rfl) rfl ?_;refine LQ.gyes' (dj:=44) (b:=_) rfl rfl g44 ?_;refine LQ.val (fun w hw=>x_mv (v:=.int _ _) rfl) rfl ?_;refine LQ.gyes' (dj:=44) (b:=_) rfl rfl g44 ?_;refine LQ.val (fun w hw=>x_ia (j:=k) Tryz.underlying31 krfy_sz70 rfl rfl om_ om_) rfl ?_;refine LQ.gyes' (dj:=44) (b:=_) rfl rfl g44 ?_;refine LQ.val (fun w hw=>x_fa krfy_fo70_0 rfl) rfl ?_;refine LQ.gyes' (dj:=44) (b:=_) rfl rfl g44 ?_;refine LQ.val (fun w hw=>x_ld (v:=S _) krfy_oc9 rfl (hw.keep (hcu 0 om_))) rfl ?_;refine LQ.gyes' (dj:=44) (b:=_) rfl rfl g44 ?_;refine LQ.val (fun w hw=>x_eqs rfl rfl) rfl ?_;refine LQ.val (fun w hw=>x_pick_t (v:=.bool _) (congrArg Value.bool g44) rfl) rfl ?_;refine LQ.nil ?_;intro w41 hw;have hB:=hB.carry hw;have hU:=hU.carry hw;have hO:=hO.carry hw;have hE8:=hE8.carry hw;refine thn_n (W.cond (b:=_) rfl (fun g54=>?_) (fun g54=>?_))
       ·have h54:=seq_t g54;have hbe:behindE e (cur.drop i)=(cur.drop i).drop 1:=by rw [behind_pos hii rfl,if_pos h54,List.drop_drop]
        refine W.region (L.val (x_mv (v:=.slice _ _ _) rfl) rfl ?_);refine L.val (x_slog (j:=1) Tryz.underlying31 krfy_sz70 rfl rfl rfl om_) rfl ?_;refine L.val (x_as (v:=.slice _ _ _) rfl) rfl ?_;refine L.nil (thn_n ?_);first
          | (rw [hbe];exact ⟨rfl,_,_,rfl,rfl,rfl,rfl,rfl,hB,hU,hO,hE8.up.mono fun _ _ hk=>.inr hk⟩)
          | (rw [hbe];refine ⟨rfl,_,_,rfl,rfl,rfl,rfl,by rw [List.length_drop (l:=cur.drop i)];rfl,hB,hU,hO,?_⟩
             rw [List.length_drop (l:=cur.drop i)];exact (eds_drop hE8 1 hi8).up.mono fun _ _ hk=>.inr hk)
       ·have h54:=seq_f g54;have hbe:behindE e (cur.drop i)=cur.drop i:=by rw [behind_pos hii rfl,if_neg h54]
        refine W.skip (thn_n ?_);first
          | (rw [hbe];exact ⟨rfl,_,_,rfl,rfl,rfl,rfl,rfl,hB,hU,hO,hE8.up.mono fun _ _ hk=>.inr hk⟩)
          | (rw [hbe];refine ⟨rfl,_,_,rfl,rfl,rfl,rfl,by rw [List.length_drop (l:=cur.drop i)];rfl,hB,hU,hO,?_⟩
             rw [List.length_drop (l:=cur.drop i)];exact (eds_drop hE8 1 hi8).up.mono fun _ _ hk=>.inr hk)
      ·have h44:=dlt_f g44;have hX:cur.drop i=[]:=List.eq_nil_of_length_eq_zero om_;have hbe:behindE e (cur.drop i)=cur.drop i:=by rw [hX];rfl
       (iterate 10 refine LQ.gno (dj:=44) (b:=_) rfl rfl g44 rfl ?_);refine LQ.val (fun w hw=>x_pick_f (v:=.bool _) (congrArg Value.bool g44) rfl) rfl ?_;refine LQ.nil ?_;intro w41 hw;have hB:=hB.carry hw;have hU:=hU.carry hw;have hO:=hO.carry hw;have hE8:=hE8.carry hw;refine thn_n (W.cond (b:=false) rfl (fun h=>nomatch h) (fun _=>?_));refine W.skip (thn_n ?_);first
         | (rw [hbe];exact ⟨rfl,_,_,rfl,rfl,rfl,rfl,rfl,hB,hU,hO,hE8.up.mono fun _ _ hk=>.inr hk⟩)
         | (rw [hbe];refine ⟨rfl,_,_,rfl,rfl,rfl,rfl,by rw [List.length_drop (l:=cur.drop i)];rfl,hB,hU,hO,?_⟩
            rw [List.length_drop (l:=cur.drop i)];exact (eds_drop hE8 1 hi8).up.mono fun _ _ hk=>.inr hk)
     ·rintro D E w58 ⟨rfl,p8,c8',e1,e5,e6,e7,e8,hB,hU,hO,hE8⟩;rw [upd_self e1,upd_self e5,upd_self e6,upd_self e7,upd_self e8];have hB58:=hB.size;have hbl:=behind_len e (cur.drop i);rw [List.length_drop] at hbl;refine W.seq (W.region (L.bs0 Tryz.underlying31 krfy_el70 rfl (fun w58b hO58 hw hz58=>?_)));have hB:=hB.carry hw;have hU:=hU.carry hw;have hO:=hO.carry hw;have hE8:=hE8.carry hw;refine L.val (x_mv (v:=.slice _ _ _) rfl) rfl ?_;refine L.val (x_mv (v:=.int _ _) rfl) rfl ?_;refine L.val (x_shi (j:=i) Tryz.underlying31 krfy_sz70 rfl rfl rfl om_) rfl ?_;refine L.appendN (m:=i) Tryz.underlying31 krfy_el70 rfl rfl rfl hO58 (by rw [(eds_cut cur i).2,eds_flat,List.length_take];congr 1;omega) (HoldsN.take (sz:=3) (eds_holdsN (own_eds hO hok om_)) hi) (by rw [(eds_cut cur i).2];exact eds_one _) om_ (by have:=hB.size;omega) (fun v62 w62 hO62 hg hob62=>?_);have hlO:=fun j (e:some j=_)=>Own.lt hO58 (j:=j) e
      have hB:=hB.step hg (fun i hi e=>by have:=hlO i e;omega);have hU:=hU.carryR hg (fun i e=>by have:=hlO i e;omega);have hE8:=hE8.carryR hg (fun i e=>by have:=hlO i e;omega);obtain ⟨a9,c9,e9,hc9⟩:=own_shape hO62;rw [Nat.zero_add,List.nil_append,(eds_cut cur i).2] at hO62;rw [Nat.zero_add] at e9 hc9;subst e9;have hO:=Own.weak hO62 (base':=w.heap.size) om_;have hs62:=hg.size;have hq62:=fun j (hj:some j=(Value.slice a9 i c9).ownBlock)=>(Own.lt hO62 hj).1
      refine L.val (x_as (v:=.slice _ _ _) rfl) rfl ?_;refine L.nil (thn_n (W.seq (W.seq (W.region ?_))));obtain ⟨bu',ou',eu,hcu⟩:=eds_cell hU hlt;cases eu;rw [← he] at hcu;refine L.val (x_mv (v:=.slice _ _ _) rfl) rfl ?_;refine L.val (x_mv (v:=.int _ _) rfl) rfl ?_;refine L.val (x_ia (j:=k) Tryz.underlying31 krfy_sz70 rfl rfl om_ om_) rfl ?_;refine L.val (x_fa krfy_fo70_2 rfl) rfl ?_;refine L.val (x_ld (v:=.bool _) krfy_oc4 rfl (hcu 2 om_)) rfl ?_;refine L.val (x_not rfl) rfl ?_;refine L.nil (thn_n (W.cond (b:=_) rfl (fun g68=>?_) (fun g68=>?_)))
      ·have h68:=(not_t g68);have hgone:e.gone=false:=by simpa using g68
       have et:comes h (l.take (k+1))=cur.take i++([e]++behindE e (cur.drop i)):=by rw [hct,come1_split hi hlts hge,hgone];rfl
       have el:(cur.take i++([e]++behindE e (cur.drop i))).length=i+1+(behindE e (cur.drop i)).length:=by simp only [List.length_append,List.length_take,List.length_singleton];omega
       refine W.region (L.val (x_mv (v:=.slice _ _ _) rfl) rfl ?_);refine L.val (x_mv (v:=.slice _ _ _) rfl) rfl ?_;refine L.val (x_mv (v:=.int _ _) rfl) rfl ?_;refine L.val (x_ia (j:=k) Tryz.underlying31 krfy_sz70 rfl rfl om_ om_) rfl ?_;refine L.val (x_ldn (vs:=edV e) krfy_ag70 rfl rfl hcu) rfl ?_;refine L.bs (sz:=3) (cells:=edV e) Tryz.underlying31 krfy_el70 rfl rfl rfl rfl (fun w74 bx74 hw hz74=>?_);have hB:=hB.carry hw;have hU:=hU.carry hw;have hO:=hO.carry hw;have hE8:=hE8.carry hw;refine L.appendN (m:=1) Tryz.underlying31 krfy_el70 rfl rfl rfl hO rfl (holdsN_box bx74) (edV_one e) om_ om_ (fun v75 w75 hO75 hg hob75=>?_);have hB:=hB.step hg (fun i hi e=>by have:=hq62 i e;omega);have hs75:=hg.size;have hE8:=hE8.carryR hg (fun i e=>hq62 i e);have hU:=hU.carryR hg (fun i e=>by have:=hq62 i e;omega);obtain ⟨a10,c10,e10,-⟩:=own_shape hO75;subst e10;have hq75:=fun j (hj:some j=(Value.slice a10 (i+1) c10).ownBlock)=>show w58.heap.size≤j from hob75.elim (fun e=>hq62 j (hj.trans e)) (fun e=>by rw [e] at hj;cases hj;omega)
       refine L.val (x_as (v:=.slice _ _ _) rfl) rfl ?_;refine L.nil (thn_n (W.region (L.val (x_mv (v:=.slice _ _ _) rfl) rfl ?_)));refine L.val (x_mv (v:=.slice _ _ _) rfl) rfl ?_;refine L.appendN (m:=_) Tryz.underlying31 krfy_el70 rfl rfl rfl hO75 (eds_flat _) (eds_holdsN hE8) (eds_one _) om_ om_ (fun v78 w78 hO78 hg hob78=>?_);have hB:=hB.step hg (fun i hi e=>by have:=hq75 i e;omega);have hU:=hU.carryR hg (fun i e=>by have:=hq75 i e;omega);have hO2:Own w78 w.heap.size 70 3 v78 (comes h (l.take (k+1))).length ((comes h (l.take (k+1))).map edV).flatten:=by
         rw [et,el];simpa only [List.map_append,List.flatten_append,List.map_cons,List.map_nil,List.flatten_cons,List.flatten_nil,List.append_nil,List.append_assoc] using hO78
       obtain ⟨a11,c11,e11,-⟩:=own_shape hO78;subst e11;refine L.val (x_as (v:=.slice _ _ _) rfl) rfl ?_;refine L.nil (blk_n (thn_n (W.region (L.val (x_mv (v:=.int _ _) rfl) rfl ?_))));refine L.val (x_add rfl rfl (wr64 om_)) rfl ?_;refine L.val (x_as (v:=.int _ _) rfl) rfl ?_;refine L.nil (thn_n ⟨rfl,?_⟩);refine ⟨_,?_,k+1,_,rfl,vi_,vi_,vi_,ao_,ao_,ao_,(by exact hO2)⟩;omega
      ·have h68:=(not_f g68);have hgone:e.gone=true:=by simpa using g68
       have et:comes h (l.take (k+1))=cur.take i++behindE e (cur.drop i):=by rw [hct,come1_split hi hlts hge,hgone];rfl
       have el:(cur.take i++behindE e (cur.drop i)).length=i+(behindE e (cur.drop i)).length:=by simp only [List.length_append,List.length_take];omega
       refine W.skip (thn_n (W.region (L.val (x_mv (v:=.slice _ _ _) rfl) rfl ?_)));refine L.val (x_mv (v:=.slice _ _ _) rfl) rfl ?_;refine L.appendN (m:=_) Tryz.underlying31 krfy_el70 rfl rfl rfl hO (eds_flat _) (eds_holdsN hE8) (eds_one _) om_ om_ (fun v78 w78 hO78 hg hob78=>?_);have hB:=hB.step hg (fun i hi e=>by have:=hq62 i e;omega);have hU:=hU.carryR hg (fun i e=>by have:=hq62 i e;omega);have hO2:Own w78 w.heap.size 70 3 v78 (comes h (l.take (k+1))).length ((comes h (l.take (k+1))).map edV).flatten:=by
         rw [et,el];simpa only [List.map_append,List.flatten_append] using hO78
       obtain ⟨a11,c11,e11,-⟩:=own_shape hO78;subst e11;refine L.val (x_as (v:=.slice _ _ _) rfl) rfl ?_;refine L.nil (blk_n (thn_n (W.region (L.val (x_mv (v:=.int _ _) rfl) rfl ?_))));refine L.val (x_add rfl rfl (wr64 om_)) rfl ?_;refine L.val (x_as (v:=.int _ _) rfl) rfl ?_;refine L.nil (thn_n ⟨rfl,?_⟩);refine ⟨_,?_,k+1,_,rfl,vi_,vi_,vi_,ao_,ao_,ao_,(by exact hO2)⟩;omega
   ·have h16:=dlt_f g16;have hkl:k=l.length:=by omega
    subst hkl;obtain ⟨a5,c5,e5s,hc5⟩:=own_shape hO;subst e5s;have hok2:=hoks l.length;rw [List.take_length] at hok2;refine W.exit (thn_x (thn_x (blk_hit ?_)));refine thn_n (W.seq (W.region (L.val (x_mv (v:=.slice _ _ _) rfl) rfl ?_)));refine L.val (x_as (v:=.slice _ _ _) rfl) rfl ?_;refine L.nil (thn_n (W.ret (fin_mk (.inr rfl) ?_)));simp only [List.take_length] at hO ⊢;exact ⟨⟨_,_,rfl,hO,hok2⟩,hB⟩
end Go.Gx
namespace Go.Gx
open Go
theorem xor32 {a b:Nat} (ha:a<4294967296) (hb:b<4294967296):bits .xor .u32 (a:Int) (b:Int)=((a ^^^ b:Nat):Int):=by
  have hx:a ^^^ b<2 ^ 32:=Nat.xor_lt_two_pow om_ om_;have h1:(BitVec.ofInt 32 (a:Int)).toNat=a:=by
    rw [BitVec.ofInt_natCast,BitVec.toNat_ofNat];exact Nat.mod_eq_of_lt om_
  have h2:(BitVec.ofInt 32 (b:Int)).toNat=b:=by
    rw [BitVec.ofInt_natCast,BitVec.toNat_ofNat];exact Nat.mod_eq_of_lt om_
  show IntKind.u32.wrap ((BitVec.ofInt 32 (a:Int) ^^^ BitVec.ofInt 32 (b:Int)).toNat:Int)=_;rw [BitVec.toNat_xor,h1,h2];simp [IntKind.wrap,IntKind.bits,IntKind.signed];omega
theorem and32 {a b:Nat} (ha:a<4294967296) (hb:b<4294967296):bits .and .u32 (a:Int) (b:Int)=((a &&& b:Nat):Int):=by
  have hx:a &&& b<2 ^ 32:=Nat.and_lt_two_pow _ om_;have h1:(BitVec.ofInt 32 (a:Int)).toNat=a:=by
    rw [BitVec.ofInt_natCast,BitVec.toNat_ofNat];exact Nat.mod_eq_of_lt om_
  have h2:(BitVec.ofInt 32 (b:Int)).toNat=b:=by
    rw [BitVec.ofInt_natCast,BitVec.toNat_ofNat];exact Nat.mod_eq_of_lt om_
  show IntKind.u32.wrap ((BitVec.ofInt 32 (a:Int) &&& BitVec.ofInt 32 (b:Int)).toNat:Int)=_;rw [BitVec.toNat_and,h1,h2];simp [IntKind.wrap,IntKind.bits,IntKind.signed];omega
theorem and32_1 {a:Nat} (ha:a<4294967296):bits .and .u32 (a:Int) 1=((a % 2:Nat):Int):=by
  rw [show (1:Int)=((1:Nat):Int) from rfl,and32 ha om_,Nat.and_one_is_mod]
def crN1 (r:Nat):Nat:=if r % 2=1 then (r / 2) ^^^ 2197175160 else r / 2
def crN:Nat→Nat→Nat
  | 0,r=>r
  | k+1,r=>crN1 (crN k r)
theorem crN1_lt {r:Nat} (h:r<4294967296):crN1 r<4294967296:=by
  unfold crN1;split
  · exact Nat.xor_lt_two_pow (n:=32) om_ om_
  · omega
theorem crN_lt {r:Nat} (h:r<4294967296):∀ k,crN k r<4294967296
  | 0=>h
  | k+1=>crN1_lt (crN_lt h k)
theorem stepC1_nat {r:Nat} (h:r<4294967296):stepC1 (r:Nat)=(crN1 r:Nat):=by
  unfold stepC1 crN1;rw [and32_1 h,show (2:Int) ^ (1:Int).toNat=2 from rfl,show ((r:Int) / 2)=((r / 2:Nat):Int) by omega];rcases Nat.mod_two_eq_zero_or_one r with h0 | h0
  · rw [h0,if_neg om_,show IntKind.u32.wrap (0 - ((0:Nat):Int))=((0:Nat):Int) by decide,show (2197175160:Int)=((2197175160:Nat):Int) from rfl,and32 om_ om_,Nat.and_zero,xor32 om_ om_,Nat.xor_zero]
  · rw [h0,if_pos rfl,show IntKind.u32.wrap (0 - ((1:Nat):Int))=((4294967295:Nat):Int) by decide,show (2197175160:Int)=((2197175160:Nat):Int) from rfl,and32 om_ om_,show (2197175160:Nat) &&& 4294967295=2197175160 by decide,xor32 om_ om_]
theorem stepC_nat {r:Nat} (h:r<4294967296):∀ k,stepC k (r:Nat)=(crN k r:Nat)
  | 0=>rfl
  | k+1=>by rw [stepC,stepC_nat h k,stepC1_nat (crN_lt h k),crN]
def inN1 (b i r:Nat):Nat:=if r % 2=b / 2 ^ i % 2 then r / 2 else (r / 2) ^^^ 2197175160
def inN (b:Nat):Nat→Nat→Nat
  | 0,r=>r
  | i+1,r=>inN1 b i (inN b i r)
theorem inN1_lt {b i r:Nat} (h:r<4294967296):inN1 b i r<4294967296:=by
  unfold inN1;split
  · omega
  · exact Nat.xor_lt_two_pow (n:=32) om_ om_
theorem inN_lt {b r:Nat} (h:r<4294967296):∀ k,inN b k r<4294967296
  | 0=>h
  | k+1=>inN1_lt (inN_lt h k)
theorem xor_half (x c:Nat):(x ^^^ c) / 2=x / 2 ^^^ c / 2:=by
  have:=Nat.xor_div_two_pow (a:=x) (b:=c) (n:=1);simpa using this
theorem xor_odd (x c:Nat):(x ^^^ c) % 2=(x % 2+c % 2) % 2:=by
  have h:=Nat.xor_mod_two_pow (a:=x) (b:=c) (n:=1);simp only [Nat.pow_one] at h;rw [h];rcases Nat.mod_two_eq_zero_or_one x with h1 | h1 <;> rcases Nat.mod_two_eq_zero_or_one c with h2 | h2 <;> rw [h1,h2] <;> decide
theorem st_in {b r:Nat}:∀ k,crN k (r ^^^ b)=inN b k r ^^^ (b / 2 ^ k)
  | 0=>by rw [crN,inN,Nat.pow_zero,Nat.div_one]
  | k+1=>by
    rw [crN,inN,st_in k];have e:b / 2 ^ (k+1)=b / 2 ^ k / 2:=by rw [Nat.pow_succ,Nat.div_div_eq_div_mul]
    rw [e];generalize inN b k r=x;unfold crN1 inN1;generalize b / 2 ^ k=c;rw [xor_odd,xor_half];rcases Nat.mod_two_eq_zero_or_one x with h1 | h1 <;> rcases Nat.mod_two_eq_zero_or_one c with h2 | h2 <;> rw [h1,h2]
    · rw [if_neg (by decide),if_pos rfl]
    · rw [if_pos (by decide),if_neg (by decide),Nat.xor_assoc,Nat.xor_assoc,Nat.xor_comm (c / 2)]
    · rw [if_pos (by decide),if_neg (by decide),Nat.xor_assoc,Nat.xor_assoc,Nat.xor_comm (c / 2)]
    · rw [if_neg (by decide),if_pos rfl]
theorem step_in {b r:Nat} (hr:r<4294967296) (hb:b<256):stepC 8 (bits .xor .u32 (r:Nat) (b:Nat))=(inN b 8 r:Nat):=by
  have hx:r ^^^ b<4294967296:=Nat.xor_lt_two_pow (n:=32) om_ om_;rw [xor32 hr om_,stepC_nat hx,st_in 8,show b / 2 ^ 8=0 by omega,Nat.xor_zero]
theorem moreR_nat {r:Nat} (hr:r<4294967296):∀ s:Str,∃ n:Nat,n<4294967296∧moreR (r:Nat) s=(n:Nat)
  | []=>⟨r,hr,rfl⟩
  | b :: s=>by
    have hb:=b.toNat_lt;obtain ⟨n,h1,h2⟩:=moreR_nat (inN_lt (b:=b.toNat) hr 8) s;refine ⟨n,h1,?_⟩;rw [← h2];show moreR (stepC 8 (bits .xor .u32 (r:Nat) (b.toNat:Nat))) s=_;rw [step_in hr hb]
end Go.Gx
namespace Go.Gx
open Go.Proofs
theorem krf1_en124:Go.Proofs.Enters Tryz.prog 124:=Go.Proofs.enters_of Tryz.func124 kr_ rfl
theorem krf1_oc9:oneCellT Tryz.prog 9=true:=by kernel_rfl
theorem krf1_sz9:(Tryz.prog.info? 9).map (·.size)=some 1:=by kernel_rfl
theorem x_shrN {P:Program} {E:Env} {w:World} {x y:Operand} {t u z:TypeId} {k k':IntKind} {a i:Nat} (hx:ev E x=.int k (a:Nat)) (hy:ev E y=.int k' (i:Nat)) (hb:i≤k.bits):X P (.binOp .shr u x y z) t E w (.int k ((a / 2 ^ i:Nat):Int)) w:=by
  have h:=x_shr (P:=P) (t:=t) (u:=u) (z:=z) (w:=w) hx hy om_ om_;have e:((a:Int) / 2 ^ ((i:Nat):Int).toNat)=((a / 2 ^ i:Nat):Int):=by
    rw [Int.toNat_natCast,Int.natCast_ediv,Int.natCast_pow];rfl
  rwa [e] at h
theorem in02 (r:Nat) (hr:r<4294967296) (b:UInt8) (w:World):Ret Tryz.prog 124 #[.int .u32 (r:Nat),.int .u8 (b.toNat:Nat)] w fun v w'=>v=.int .u32 (stepC 8 (bits .xor .u32 (r:Nat) (b.toNat:Nat)))∧w'=w:=by
  have hb:=b.toNat_lt;rw [step_in hr hb];refine ret_of_W Tryz.func124 rfl (Nat.le_of_ble_eq_true rfl) (res1 rfl) ?_;refine W.seq (W.region (L.val (x_as (v:=.int _ _) rfl) rfl ?_));refine L.nil (thn_n (W.seq (W.seq (W.region (L.val (x_as (v:=.int _ _) rfl) rfl ?_)))));refine L.nil (thn_n (W.block (W.loop (fun m' E w'=>∃ (i:Nat),m'=8 - i∧E 0=.int .u32 (inN b.toNat i r:Nat)∧E 1=.int .u8 (b.toNat:Nat)∧E 5=.int .i64 (i:Nat)∧(i≤8)∧(w'=w)) (8) ?_ ?_)))
  ·exact ⟨0,by omega,vi_,vi_,vi_,ao_,ao_⟩
  ·rintro _ E wL7 ⟨i,em,e0,e1,e5,hi,hw0⟩;rw [upd_self e0,upd_self e1,upd_self e5];refine W.seq (W.seq (W.region (L.val (x_mv (v:=.int _ _) rfl) rfl ?_)));refine L.val (x_lss rfl rfl) rfl ?_;refine L.nil (thn_n (W.cond (b:=_) rfl (fun g8=>?_) (fun g8=>?_)))
   ·have h8:=of_decide_eq_true g8;have hlt:i<8:=by omega
    rw [hw0];have hx:=inN_lt (b:=b.toNat) hr i;obtain ⟨q,hqq⟩:∃ q,q=b.toNat / 2 ^ i:=⟨_,rfl⟩;have hd:q≤b.toNat:=by rw [hqq];exact Nat.div_le_self _ _
    have hs:inN b.toNat (i+1) r=inN1 b.toNat i (inN b.toNat i r):=rfl;unfold inN1 at hs;rw [← hqq] at hs;refine W.skip (thn_n (W.seq (W.block (W.seq (W.region (L.val (x_mv (v:=.int _ _) rfl) rfl ?_))))));refine L.val (x_mv (v:=.int _ _) rfl) rfl ?_;refine L.val (x_shrN rfl rfl (by show i≤8;omega)) rfl ?_;rw [← hqq];refine L.val (x_conv (k':=.u32) (by rw [Tryz.underlying5];rfl) Tryz.underlying165 rfl (wru32 om_)) rfl ?_;refine L.val (x_band rfl rfl) rfl ?_;rw [and32_1 om_];refine L.val (x_as (v:=.int _ _) rfl) rfl ?_;refine L.nil (thn_n (W.seq (W.region (L.val (x_mv (v:=.int _ _) rfl) rfl ?_))));refine L.val (x_band rfl rfl) rfl ?_;rw [and32_1 om_];refine L.val (x_mv (v:=.int _ _) rfl) rfl ?_;refine L.val (x_neq rfl rfl) rfl ?_;refine L.nil (thn_n (W.cond (b:=_) rfl (fun g19=>?_) (fun g19=>?_)))
    ·have h19:=dne_t g19;have he:¬ inN b.toNat i r % 2=q % 2:=by omega
     rw [if_neg he] at hs;refine W.region (L.val (x_mv (v:=.int _ _) rfl) rfl ?_);refine L.val (x_shrN (i:=1) rfl rfl (by show 1≤32;omega)) rfl ?_;refine L.val (x_bxor rfl rfl) rfl ?_;rw [show (2197175160:Int)=((2197175160:Nat):Int) from rfl,xor32 om_ om_,Nat.pow_one,← hs];refine L.val (x_as (v:=.int _ _) rfl) rfl ?_;refine L.nil (blk_n (thn_n (W.region (L.val (x_mv (v:=.int _ _) rfl) rfl ?_))));refine L.val (x_add rfl rfl (wr64 om_)) rfl ?_;refine L.val (x_as (v:=.int _ _) rfl) rfl ?_;refine L.nil (thn_n ⟨rfl,?_⟩);refine ⟨_,?_,i+1,rfl,vi_,vi_,vi_,ao_,ao_⟩;omega
    ·have h19:=dne_f g19;have he:inN b.toNat i r % 2=q % 2:=by omega
     rw [if_pos he] at hs;refine W.region (L.val (x_mv (v:=.int _ _) rfl) rfl ?_);refine L.val (x_shrN (i:=1) rfl rfl (by show 1≤32;omega)) rfl ?_;rw [Nat.pow_one,← hs];refine L.val (x_as (v:=.int _ _) rfl) rfl ?_;refine L.nil (blk_n (thn_n (W.region (L.val (x_mv (v:=.int _ _) rfl) rfl ?_))));refine L.val (x_add rfl rfl (wr64 om_)) rfl ?_;refine L.val (x_as (v:=.int _ _) rfl) rfl ?_;refine L.nil (thn_n ⟨rfl,?_⟩);refine ⟨_,?_,i+1,rfl,vi_,vi_,vi_,ao_,ao_⟩;omega
   ·have h8:=dlt_f g8;refine W.exit (thn_x (thn_x (blk_hit ?_)));refine thn_n (W.seq (W.region (L.val (x_mv (v:=.int _ _) rfl) rfl ?_)));refine L.val (x_as (v:=.int _ _) rfl) rfl ?_;refine L.nil (thn_n (W.ret (fin_mk (.inr rfl) ?_)));have:i=8:=by omega
    subst this;exact ⟨rfl,hw0⟩
theorem cpl0:cplC 0=4294967295:=by decide
theorem sum02 (A:Nat→Prop) (v:Value) (s:Str) (w:World) (h:StrsAt A w v [s]):Ret Tryz.prog 103 #[v] w fun r w'=>r=.int .u32 (crcS s)∧w'=w:=by
  obtain ⟨p,c,rfl,h1,h2,h3,h4,-⟩:=id h;have hs:s.length≤9223372036854775807:=h4 s (by simp);obtain ⟨b,o,rfl,hc⟩:=h.elem (i:=0) (by simp);have hc:w.cell? ⟨b,o+0,none⟩=some (S s):=hc;have hmn:∀ k,∃ n:Nat,n<4294967296∧moreR 4294967295 (s.take k)=(n:Nat):=fun k=>moreR_nat (r:=4294967295) om_ (s.take k)
  refine ret_of_W Tryz.func103 rfl (Nat.le_of_ble_eq_true rfl) (res1 rfl) ?_;refine W.seq (W.region (L.val (x_as (v:=.int _ _) rfl) rfl ?_));refine L.nil (thn_n (W.seq (W.region (L.val (x_as (v:=.int _ _) rfl) rfl ?_))));refine L.nil (thn_n (W.seq (W.seq (W.region (L.val (x_as (v:=.int _ _) rfl) rfl ?_)))));refine L.nil (thn_n (W.block (W.loop (fun m' E w'=>∃ (k:Nat),m'=1 - k∧E 0=.slice (some ⟨b,o,none⟩) 1 c∧E 3=.int .u32 (if k=0 then 4294967295 else moreR 4294967295 s)∧E 4=.int .i64 (k:Nat)∧(k≤1)∧(w'=w)) (1) ?_ ?_)))
  ·exact ⟨0,by omega,by first | rfl | exact vi om_ | exact vs (by first | assumption | (rw [hst];done) | (rw [hst];simp only [List.append_assoc])),by first | rfl | exact vi om_ | exact vs (by first | assumption | (rw [hst];done) | (rw [hst];simp only [List.append_assoc])),by first | rfl | exact vi om_ | exact vs (by first | assumption | (rw [hst];done) | (rw [hst];simp only [List.append_assoc])),ao_,ao_⟩
  ·rintro _ E wL6 ⟨k,em,e0,e3,e4,hk,hw0⟩;rw [upd_self e0,upd_self e3,upd_self e4];refine W.seq (W.seq (W.region (L.val (x_mv (v:=.int _ _) rfl) rfl ?_)));refine L.val (x_mv (v:=.slice _ _ _) rfl) rfl ?_;refine L.val (x_len_slice Tryz.underlying22 rfl) rfl ?_;refine L.val (x_lss rfl rfl) rfl ?_;refine L.nil (thn_n (W.cond (b:=_) rfl (fun g9=>?_) (fun g9=>?_)))
   ·have h9:=of_decide_eq_true g9;have h0:k=0:=by omega
    subst h0;rw [hw0];have hm0:(if (0:Nat)=0 then (4294967295:Int) else moreR 4294967295 s)=moreR 4294967295 (s.take 0):=rfl;rw [hm0];refine W.skip (thn_n (W.seq (W.block (W.seq (W.region (L.val (x_as (v:=.int _ _) rfl) rfl ?_))))));refine L.nil (thn_n (W.block (W.loop (fun m' E w'=>∃ (j:Nat),m'=s.length - j∧E 0=.slice (some ⟨b,o,none⟩) 1 c∧E 3=.int .u32 (moreR 4294967295 (s.take j))∧E 4=.int .i64 ((0:Nat):Int)∧E 5=.int .i64 (j:Nat)∧(j≤s.length)∧(w'=w)) (s.length) ?_ ?_)))
    ·exact ⟨0,by omega,by first | rfl | exact vi om_ | exact vs (by first | assumption | (rw [hst];done) | (rw [hst];simp only [List.append_assoc])),by first | rfl | exact vi om_ | exact vs (by first | assumption | (rw [hst];done) | (rw [hst];simp only [List.append_assoc])),by first | rfl | exact vi om_ | exact vs (by first | assumption | (rw [hst];done) | (rw [hst];simp only [List.append_assoc])),by first | rfl | exact vi om_ | exact vs (by first | assumption | (rw [hst];done) | (rw [hst];simp only [List.append_assoc])),ao_,(by rfl)⟩
    ·rintro _ E wL12 ⟨j,em,e0,e3,e4,e5,hj,hw1⟩;rw [upd_self e0,upd_self e3,upd_self e4,upd_self e5];refine W.seq (W.seq (W.region ?_));rw [hw1];refine L.val (x_mv (v:=.int _ _) rfl) rfl ?_;refine L.val (x_mv (v:=.slice _ _ _) rfl) rfl ?_;refine L.val (x_mv (v:=.int _ _) rfl) rfl ?_;refine L.val (x_ia1 (j:=0) Tryz.underlying22 krf1_sz9 rfl rfl om_ om_) rfl ?_;refine L.val (x_ld (v:=S _) krf1_oc9 rfl hc) rfl ?_;refine L.val (x_len_str Tryz.underlying9 rfl) rfl ?_;refine L.val (x_lss rfl rfl) rfl ?_;refine L.nil (thn_n (W.cond (b:=_) rfl (fun g18=>?_) (fun g18=>?_)))
     ·have h18:=of_decide_eq_true g18;have hlt:j<s.length:=by omega
      obtain ⟨n,hn1,hn2⟩:=hmn j;have hst:=moreR_take (r:=4294967295) hlt;rw [hn2] at hst ⊢;refine W.skip (thn_n (W.seq (W.block (W.region (L.val (x_mv (v:=.int _ _) rfl) rfl ?_)))));refine L.val (x_mv (v:=.slice _ _ _) rfl) rfl ?_;refine L.val (x_mv (v:=.int _ _) rfl) rfl ?_;refine L.val (x_ia1 (j:=0) Tryz.underlying22 krf1_sz9 rfl rfl om_ om_) rfl ?_;refine L.val (x_ld (v:=S _) krf1_oc9 rfl hc) rfl ?_;refine L.val (x_mv (v:=.int _ _) rfl) rfl ?_;refine L.val (x_ixs (j:=j) Tryz.underlying9 rfl rfl om_ om_) rfl ?_;refine L.ret (x_call krf1_en124 rfl) rfl (in02 n hn1 (s.getD j 0) _) ?_;rintro _ w28 ⟨rfl,hq⟩;rw [hq,← hst];refine L.val (x_as (v:=.int _ _) rfl) rfl ?_;refine L.nil (blk_n (thn_n (W.region (L.val (x_mv (v:=.int _ _) rfl) rfl ?_))));refine L.val (x_add rfl rfl (wr64 om_)) rfl ?_;refine L.val (x_as (v:=.int _ _) rfl) rfl ?_;refine L.nil (thn_n ⟨rfl,?_⟩);refine ⟨_,?_,j+1,rfl,by first | rfl | exact vi om_ | exact vs (by first | assumption | (rw [hst];done) | (rw [hst];simp only [List.append_assoc])),by first | rfl | exact vi om_ | exact vs (by first | assumption | (rw [hst];done) | (rw [hst];simp only [List.append_assoc])),by first | rfl | exact vi om_ | exact vs (by first | assumption | (rw [hst];done) | (rw [hst];simp only [List.append_assoc])),by first | rfl | exact vi om_ | exact vs (by first | assumption | (rw [hst];done) | (rw [hst];simp only [List.append_assoc])),ao_,ao_⟩;omega
     ·have h18:=dlt_f g18;have hjs:j=s.length:=by omega
      subst hjs;rw [List.take_length];refine W.exit (thn_x (thn_x (blk_hit ?_)));refine blk_n (thn_n (W.region (L.val (x_mv (v:=.int _ _) rfl) rfl ?_)));refine L.val (x_add rfl rfl (wr64 om_)) rfl ?_;refine L.val (x_as (v:=.int _ _) rfl) rfl ?_;refine L.nil (thn_n ⟨rfl,?_⟩);refine ⟨_,?_,1,rfl,by first | rfl | exact vi om_ | exact vs (by first | assumption | (rw [hst];done) | (rw [hst];simp only [List.append_assoc])),by first | rfl | exact vi om_ | exact vs (by first | assumption | (rw [hst];done) | (rw [hst];simp only [List.append_assoc])),by first | rfl | exact vi om_ | exact vs (by first | assumption | (rw [hst];done) | (rw [hst];simp only [List.append_assoc])),ao_,ao_⟩;omega
   ·have h9:=dlt_f g9;refine W.exit (thn_x (thn_x (blk_hit ?_)));refine thn_n (W.seq (W.region (L.val (x_mv (v:=.int _ _) rfl) rfl ?_)));refine L.val (x_cpl rfl rfl) rfl ?_;refine L.val (x_as (v:=.int _ _) rfl) rfl ?_;refine L.nil (thn_n (W.ret (fin_mk (.inr rfl) ?_)));have:k=1:=by omega
    subst this;refine ⟨?_,hw0⟩;unfold crcS moreC;rw [cpl0];rfl
end Go.Gx
