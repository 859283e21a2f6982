/- Expressions that are the same; the program's Same. Conditions: none. -/
import Derived.Shelf.Slices.Clone
import Derived.Test.YtfbcfdhhgdmgkaaGreatDoorProg
import Derived.Test.YtfbcfdhhgdmgkaaGreatDoorDbTm6
import Derived.Test.YtfbcfdhhgdmgkaaGreatDoorDbTake
import Derived.Test.YtfbcfdhhgdmgkaaGreatDoorDbDrawD
namespace Go.Gx
open Go.Proofs
theorem ktm7_ag26:aggT Tryz.prog 26 9=true:=by kernel_rfl
theorem ktm7_en23:Go.Proofs.Enters Tryz.prog 23:=Go.Proofs.enters_of Tryz.func23 kr_ rfl
theorem ktm7_en24:Go.Proofs.Enters Tryz.prog 24:=Go.Proofs.enters_of Tryz.func24 kr_ rfl
theorem ktm7_en25:Go.Proofs.Enters Tryz.prog 25:=Go.Proofs.enters_of Tryz.func25 kr_ rfl
theorem ktm7_en26:Go.Proofs.Enters Tryz.prog 26:=Go.Proofs.enters_of Tryz.func26 kr_ rfl
theorem ktm7_en8:Go.Proofs.Enters Tryz.prog 8:=Go.Proofs.enters_of Tryz.func8 kr_ rfl
theorem ktm7_mixed:Tryz.prog.follows .mixedOrders=true:=by kernel_rfl
theorem ktm7_oc24:oneCellT Tryz.prog 24=true:=by kernel_rfl
theorem ktm7_sz26:(Tryz.prog.info? 26).map (·.size)=some 9:=by kernel_rfl
theorem check_fn (A:Nat→Prop) (s:Tm) (cs:List Value) (w:World) (hs:TmC A w cs s) (hT:Tabs w) (hM:s.allB limB=true):
    Ret Tryz.prog 24 #[.agg cs.toArray] w fun v w'=>v=.bool (decide (checkT s=0))∧Bel w w':=by
  have hlen:=hs.len;refine ret_of_W Tryz.func24 rfl (Nat.le_of_ble_eq_true rfl) (res1 rfl) ?_;have hB:=Gr.refl (fun _=>False) w;refine W.seq (W.region (L.box (cs:=cs) rfl rfl (fun w1 bx1 hw hz1=>?_)));have hB:=hB.carry hw;have hs:=hs.carry hw;refine L.val (x_as (v:=.bool _) rfl) rfl ?_;refine L.nil (thn_n (W.seq (W.region (L.val (x_ldn (vs:=cs) ktm7_ag26 rfl hlen (bx1.row hlen)) rfl ?_))));refine L.ret (x_call ktm7_en8 rfl) rfl (check_tm A s _ _ hs (hT.carry hB) hM) ?_;rintro _ w4 ⟨rfl,hw⟩;have hB:=hB.carry hw;have hs:=hs.carry hw;have bx1:=bx1.carry hw;refine L.val (x_eql rfl rfl) rfl ?_;refine L.val (x_as (v:=.bool _) rfl) rfl ?_;refine L.nil (thn_n (W.ret (fin_mk (.inr rfl) ?_)));exact ⟨rfl,hB⟩
theorem equal_fn (A B:Nat→Prop) (s:Tm) (cs:List Value) (b:Nat) (v:Value) (l:List Tm) (w:World) (hs:TmC A w cs s) (hb:Box w b 24 [v]) (hl:RecsAt TmC 9 B w v l) (h0:0<l.length):
    Ret Tryz.prog 25 #[.agg cs.toArray,.pointer (some ⟨b,0,none⟩)] w fun v w'=>v=.bool (eqT s (l.getD 0 default))∧Bel w w':=by
  have hlen:=hs.len;obtain ⟨p,cap,row,rfl,-,-,l3,hr⟩:=hl;obtain ⟨bb,o,rfl,-,hc⟩:=hr.elem h0;refine ret_of_W Tryz.func25 rfl (Nat.le_of_ble_eq_true rfl) (res1 rfl) ?_;have hB:=Gr.refl (fun _=>False) w;refine W.seq (W.region (L.box (cs:=cs) rfl rfl (fun w2 bx2 hw hz2=>?_)));have hB:=hB.carry hw;have hs:=hs.carry hw;have hb:=hb.carry hw;have hr:=hr.carry hw;refine L.val (x_as (v:=.bool _) rfl) rfl ?_;refine L.nil (thn_n (W.seq (W.drawF 6 ktm7_mixed (fun wF4 hB0=>?_))));refine LAC.takeN (i:=0) rfl kr_ kr_ kr_ kr_ (fun w hw=>x_ldn (vs:=cs) ktm7_ag26 rfl hlen (hw.keepRow hlen (bx2.row hlen))) rfl ?_;have hc0:=hr.elemAt h0;refine LAC.takeN (i:=1) rfl kr_ kr_ kr_ kr_ (fun w hw=>x_ld (v:=.slice _ _ _) ktm7_oc24 rfl (hw.keep (hb.cell (i:=0) rfl))) rfl ?_;refine LAC.takeN (i:=2) rfl kr_ kr_ kr_ kr_ (fun w hw=>x_ia (j:=0) Tryz.underlying24 ktm7_sz26 rfl rfl om_ om_) rfl ?_;refine LAC.takeN (i:=3) rfl kr_ kr_ kr_ kr_ (fun w hw=>x_ldn (vs:=row 0) ktm7_ag26 rfl (hr.len 0 h0) (hw.keepRow (hr.len 0 h0) hc0)) rfl ?_;refine LAC.step (rs:=[4]) (fun _=>hB0) kr_ (by simp) ⟨⟨_,rfl,?_⟩,trivial⟩;refine L.ret (x_call ktm7_en26 rfl) rfl (equal_tm _ _ _ (Nat.lt_succ_self _) A B _ _ _ (hs.carry hB0) ((hr.carry hB0).each 0 h0)) ?_;rintro _ w8 ⟨rfl,hw⟩;have hB0:=hB0.carry hw;refine L.nil (thn_n (LAC.takeN (i:=5) rfl kr_ kr_ kr_ kr_ (fun w hw=>x_as (v:=.bool _) rfl) rfl ?_));refine LAC.doneF kr_ hB0 ?_;have hB:=hB.carry hB0;have hs:=hs.carry hB0;have hb:=hb.carry hB0;have hr:=hr.carry hB0;have bx2:=bx2.carry hB0;refine thn_n (W.ret (fin_mk (.inr rfl) ?_));exact ⟨rfl,hB⟩
noncomputable def sameT (l:List Tm):Bool:=(l.all fun t=>decide (checkT t=0)) && l.all fun t=>eqT t (l.getD 0 default)
theorem same_tm (A0:Nat→Prop) (v:Value) (l:List Tm) (w:World) (h0:RecsAt TmC 9 A0 w v l) (hT:Tabs w) (hM:∀ i,i<l.length→(l.getD i default).allB limB=true):
    Ret Tryz.prog 13 #[v] w fun r w'=>r=.bool (sameT l)∧Bel w w':=by
  obtain ⟨q,c,row,rfl,-⟩:=id h0;refine ret_of_W Tryz.func13 rfl (Nat.le_of_ble_eq_true rfl) (res1 rfl) ?_;have hB:=Gr.refl (fun _=>False) w;refine W.seq (W.region (L.box (cs:=[.slice q l.length c]) rfl rfl (fun w1 bx1 hw hz1=>?_)));have hB:=hB.carry hw;have h0:=h0.carry hw;refine L.val (x_as (v:=.bool _) rfl) rfl ?_;refine L.nil (thn_n (W.seq (W.region (L.val (x_ld (v:=.slice _ _ _) ktm7_oc24 rfl (bx1.cell (i:=0) rfl)) rfl ?_))));refine L.ret (x_call ktm7_en23 rfl) rfl (eachT_ok 24 [] (fun t=>decide (checkT t=0)) ktm7_en24 A0 _ l _ h0 (fun i hi w1 cs h1 hx=>check_fn A0 _ cs w1 hx (hT.carry (hB.trans h1)) (hM i hi))) ?_;rintro _ w4 ⟨rfl,hw⟩;have hB:=hB.carry hw;have h0:=h0.carry hw;have bx1:=bx1.carry hw;refine L.val (x_mv (v:=.bool _) rfl) rfl ?_;refine' L.group 3 6 8 8 5 true rfl ?_ ?_ ?_;rotate_left 1
  ·intro g5 hg5;have h5:=g5;refine L.gyes' (dj:=5) (b:=_) rfl rfl g5 ?_;refine L.val (x_ld (v:=.slice _ _ _) ktm7_oc24 rfl (bx1.cell (i:=0) rfl)) rfl ?_;refine L.gyes' (dj:=5) (b:=_) rfl rfl g5 ?_;refine L.val (x_mkfn rfl rfl) rfl ?_;refine L.gyes' (dj:=5) (b:=_) rfl rfl g5 ?_;refine L.ret (x_call ktm7_en23 rfl) rfl (eachT_ok 25 [.pointer (some ⟨w.heap.size,0,none⟩)] (fun t=>eqT t (l.getD 0 default)) ktm7_en25 A0 _ l _ h0 (fun i hi w1 cs h1 hx=>equal_fn A0 A0 _ cs _ _ l w1 hx (bx1.carry h1) (h0.carry h1) om_)) ?_;rintro _ w8 ⟨rfl,hw⟩;have hB:=hB.carry hw;have h0:=h0.carry hw;have bx1:=bx1.carry hw;have hg5:=hg5.carry hw;refine L.nil (thn_n ⟨rfl,?_,?_,fun _=>rfl⟩)
   ·exact hg5
   ·repeat (first | exact jeq.refl _ _ _ | refine jeq.upd rfl ?_ | refine jeq.jk rfl rfl ?_)
  ·intro g5;(iterate 3 refine L.gno (dj:=5) (b:=_) rfl rfl g5 rfl ?_);refine L.nil (thn_n ⟨rfl,Gr.refl _ _,?_⟩);refine ⟨?_,fun h=>h.elim⟩;repeat (first | exact jeq.refl _ _ _ | refine jeq.upd rfl ?_ | refine jeq.jk rfl rfl ?_)
  intro J5 w5 hw j5;have hB:=hB.carry hw;have h0:=h0.carry hw;have bx1:=bx1.carry hw;refine L.val (x_and rfl j5) rfl ?_;refine L.val (x_as (v:=.bool _) rfl) rfl ?_;refine L.nil (thn_n (W.ret (fin_mk (.inr rfl) ?_)));exact ⟨vb rfl,hB⟩
end Go.Gx
namespace Go.Gx
section
variable {α : Type} [Inhabited α] {C:Thing α} {k:Nat} [Car C k] {e:TypeId} {n0:Nat} {w w':World} {v v':Value} {l:List α} {x:α} {cs:List Value} {R:Nat→Prop}
def GrowC (C:Thing α) (k:Nat) (e:TypeId) (n0:Nat) (w:World) (v:Value) (l:List α) (rows:List (List Value)):Prop:=
  RowsC C (fun j=>j<n0∨some j=v.ownBlock) w rows l∧Own w n0 e k v l.length rows.flatten
omit [Car C k] in
theorem GrowC.nil:GrowC C k e n0 w (.slice none 0 0) ([]:List α) []:=⟨RowsC.nil,own_nil⟩
omit [Car C k] in
theorem GrowC.lt {rows:List (List Value)} (h:GrowC C k e n0 w v l rows) {j:Nat} (hj:some j=v.ownBlock):n0≤j∧j<w.heap.size:=Own.lt h.2 hj
omit [Car C k] in
theorem GrowC.shape {rows:List (List Value)} (h:GrowC C k e n0 w v l rows):∃ a c,v=.slice a l.length c∧l.length≤c:=own_shape h.2
theorem GrowC.carryR {rows:List (List Value)} (h:GrowC C k e n0 w v l rows) (g:Gr R w w') (hR:∀ j,R j→j<n0):GrowC C k e n0 w' v l rows:=
  ⟨h.1.carryR g (fun j r=>.inl (hR j r)),Own.carryR h.2 g (fun j hj r=>by have:=(Own.lt h.2 hj).1;have:=hR j r;omega)⟩
theorem GrowC.carry {rows:List (List Value)} (h:GrowC C k e n0 w v l rows) (g:Bel w w'):GrowC C k e n0 w' v l rows:=h.carryR g (fun _ f=>f.elim)
theorem GrowC.done {rows:List (List Value)} (h:GrowC C k e n0 w v l rows) (hl:l.length≤70368744177664):RecsAt C k (fun j=>j<n0) w v l:=
  h.1.doneB h.2 hl (fun _ h=>.inl h) (fun j hj h2=>by have:=(Own.lt h.2 hj).1;omega)
theorem GrowC.snoc {rows:List (List Value)} (h:GrowC C k e n0 w v l rows) (hx:C (fun j=>j<n0∨some j=v.ownBlock∨w.heap.size≤j) w cs x) (hO:Own w' n0 e k v' (l.length+1) (rows.flatten++cs)) (g:Gr (fun j=>some j=v.ownBlock) w w')
    (hob:v'.ownBlock=v.ownBlock∨v'.ownBlock=some w.heap.size):GrowC C k e n0 w' v' (l++[x]) (rows++[cs]):=by
  refine ⟨?_,by rw [List.length_append,List.length_singleton,List.flatten_append];simpa using hO⟩;have hr:RowsC C (fun j=>j<n0∨some j=v.ownBlock∨w.heap.size≤j) w rows l:=h.1.mono (fun b hb hA=>by rcases hA with hA | hA | hA;exact .inl hA;exact .inr hA;omega);have h2:=(hr.append (RowsC.one hx)).carryR g (fun j hj=>.inr (.inl hj));refine h2.mono (fun b _ hA=>?_);rcases hA with hA | hA
  · exact .inl hA
  · rcases hob with e | e
    · exact .inr (.inl (hA.trans e))
    · have:=Option.some.inj (hA.trans e);exact .inr (.inr om_)
end
def Since (w0 w:World):Prop:=Gr (fun j=>w0.heap.size≤j) w0 w
theorem Since.refl (w:World):Since w w:=Gr.refl _ w
theorem Since.carryR {w0 w w':World} {R:Nat→Prop} (h:Since w0 w) (g:Gr R w w') (hR:∀ j,R j→w0.heap.size≤j):Since w0 w':=Gr.trans h (g.mono fun j _ r=>hR j r)
theorem Since.carry {w0 w w':World} (h:Since w0 w) (g:Bel w w'):Since w0 w':=h.carryR g fun _ f=>f.elim
theorem Since.bel {w0 w:World} (h:Since w0 w):Bel w0 w:=⟨h.os,h.tape,h.output,h.size,fun k hk _=>h.block k hk om_⟩
end Go.Gx
namespace Go.Proofs
open Go.Shelf
def Tryz.laysNm216_ren:Go.Shelf.Ren:=⟨fun | 16=>39 | n=>n,fun | 24=>22 | 9=>9 | 4=>4 | n=>n,fun | n=>n⟩
theorem Tryz.laysNm216:Go.Proofs.Lays2.n16 Tryz.prog Tryz.laysNm216_ren:={
  mixed:=by kernel_rfl
  f16:=Tryz.func39.trans (congrArg some (by kernel_rfl))
  t4:=Tryz.underlying4
  a4:=Tryz.isAgg4
  z4:=Tryz.sizeOf4
  v4:=Tryz.zeroValue4
  t9:=Tryz.underlying9
  a9:=Tryz.isAgg9
  z9:=Tryz.sizeOf9
  v9:=Tryz.zeroValue9
  t24:=Tryz.underlying22
  a24:=Tryz.isAgg22
  z24:=Tryz.sizeOf22
  v24:=Tryz.zeroValue22
  i9:=by kernel_rfl }
open Go.RowKit Go.Lib in
theorem Tryz.slices_Clone_string (b off n c:Nat) (zs:List ByteArray) (w:World) (hz:n≤zs.length) (hbig:n * 16≤140737488355328) (hc:∀ j,j<zs.length→w.cell? ⟨b,off+j,none⟩=some (.string (zs.getD j ByteArray.empty))):
    Calls Tryz.prog 39 #[.slice (some ⟨b,off,none⟩) n c] w fun e w'=>∃ v',e=.returned v'∧w'.ownsRow w.heap.size 9 1 v' n ((zs.take n).map (Value.string))∧v'≠.slice none 0 0∧Below w.heap.size w w':=Any.slices_Clone_string Tryz.laysNm216 b off n c zs w hz hbig hc
open Go.RowKit Go.Lib in
theorem Tryz.slices_Clone_string_nil (n c:Nat) (w:World):
    Calls Tryz.prog 39 #[.slice none n c] w fun e w'=>e=.returned (.slice none 0 0)∧w'=w:=Any.slices_Clone_string_nil Tryz.laysNm216 n c w
open Go.RowKit Go.Lib in
theorem Tryz.slices_Clone_string_zero (a:Addr) (c:Nat) (w:World):
    Calls Tryz.prog 39 #[.slice (some a) 0 c] w fun e w'=>∃ v',e=.returned v'∧w'.ownsRow w.heap.size 9 1 v' 0 []∧v'≠.slice none 0 0∧Below w.heap.size w w':=Any.slices_Clone_string_zero Tryz.laysNm216 a c w
end Go.Proofs
namespace Go.Gx
open Go.Proofs
theorem ktm8_ag45:aggT Tryz.prog 45 5=true:=by kernel_rfl
theorem ktm8_el45:elT Tryz.prog 45 5=true:=by kernel_rfl
theorem ktm8_en39:Go.Proofs.Enters Tryz.prog 39:=Go.Proofs.enters_of Tryz.func39 kr_ rfl
theorem ktm8_en40:Go.Proofs.Enters Tryz.prog 40:=Go.Proofs.enters_of Tryz.func40 kr_ rfl
theorem ktm8_fo45_3:fieldOff Tryz.prog 45 3=some 3:=by kernel_rfl
theorem ktm8_fo45_4:fieldOff Tryz.prog 45 4=some 4:=by kernel_rfl
theorem ktm8_mixed:Tryz.prog.follows .mixedOrders=true:=by kernel_rfl
theorem ktm8_oc22:oneCellT Tryz.prog 22=true:=by kernel_rfl
theorem ktm8_oc23:oneCellT Tryz.prog 23=true:=by kernel_rfl
theorem ktm8_sz22:(Tryz.prog.info? 22).map (·.size)=some 1:=by kernel_rfl
theorem ktm8_sz23:(Tryz.prog.info? 23).map (·.size)=some 1:=by kernel_rfl
theorem ktm8_sz45:(Tryz.prog.info? 45).map (·.size)=some 5:=by kernel_rfl
theorem ktm8_zr45:(Tryz.prog.info? 45).bind (·.zero)=some (Value.agg [Value.int .i64 0,S [],S [],Value.slice none 0 0,Value.slice none 0 0].toArray):=by kernel_rfl
theorem clone_tm (A:Nat→Prop) (v:Value) (l:List Str) (w:World) (h:StrsAt A w v l) (hl:l.length * 16≤140737488355328):
    Ret Tryz.prog 39 #[v] w fun r w'=>StrsAt (fun k=>k<w.heap.size) w' r l∧Bel w w':=by
  have hx:=h.short;obtain ⟨p,cq,rfl,h1,h2,h3,h4,h5⟩:=h;have fin:∀ (v':Value) (w':World),Own w' w.heap.size 9 1 v' l.length (l.map S)→StrsAt (fun k=>k<w.heap.size) w' v' l:=fun v' w' ho=>
    strs_done ho h3 hx (fun j h1 h2=>by omega)
  rcases l with _ | ⟨x,r⟩
  · rcases p with _ | a
    · exact Calls.mono (Tryz.slices_Clone_string_nil 0 cq w) fun _ _ ⟨he,hw⟩=>⟨_,he,fin _ _ own_nil,hw ▸ Gr.refl _ _⟩
    · exact Calls.mono (Tryz.slices_Clone_string_zero a cq w) fun _ _ ⟨v',he,ho,_,hb⟩=>⟨_,he,fin _ _ ho,bel_of hb⟩
  · obtain ⟨b,o,rfl,-,hc⟩:=h5 (by simp);have hk:=Tryz.slices_Clone_string b o (x :: r).length cq ((x :: r).map fun s=>(⟨s.toArray⟩:ByteArray)) w (by simp) hl (fun j hj=>by
      have hj:j<(x :: r).length:=by simpa using hj
      have e:(((x :: r).map fun s=>(⟨s.toArray⟩:ByteArray)).getD j ByteArray.empty)=⟨((x :: r).getD j []).toArray⟩:=by
        rw [List.getD_eq_getElem?_getD,List.getElem?_map,List.getElem?_eq_getElem hj,List.getD_eq_getElem?_getD,List.getElem?_eq_getElem hj];rfl
      rw [hc j hj,e];rfl)
    refine Calls.mono hk fun _ _ ⟨v',he,ho,_,hb⟩=>⟨_,he,fin _ _ ?_,bel_of hb⟩
    have e:(((x :: r).map fun s=>(⟨s.toArray⟩:ByteArray)).take (x :: r).length).map Value.string=(x :: r).map S:=by
      rw [List.take_of_length_le (by simp),List.map_map];rfl
    rw [e] at ho;exact ho
def nmB (s:Sh):Bool:=decide (s.names.length≤1000000)
instance car_sh:Car ShC 5 where
  pos:=by decide
  len:=ShC.len
  one:=ShC.one
  move:=fun hc h=>h.move hc
theorem shs_of_recs {A:Nat→Prop} {w:World} {v:Value} {l:List Sh} (h:RecsAt ShC 5 A w v l):ShsAt A w v l:=by
  obtain ⟨p,cap,row,e,h1,h2,h3,hr⟩:=h;exact ⟨p,cap,row,e,h1,h2,h3,⟨hr.at_,hr.len,hr.each⟩⟩
theorem sizeOf_get {l:List Sh} {i:Nat} (h:i<l.length):SizeOf.sizeOf (l.getD i default).parts<SizeOf.sizeOf l:=by
  have h1:=List.sizeOf_lt_of_mem (List.getElem_mem h);rw [List.getD_eq_getElem?_getD,List.getElem?_eq_getElem h];show SizeOf.sizeOf (l[i]).parts<_;generalize l[i]=s at h1;cases s;simp only [Sh.parts,Sh.mk.sizeOf_spec] at h1 ⊢;omega
theorem sizeL_get {l:List Sh} {i:Nat} (h:i<l.length):sizeL (l.getD i default).parts<sizeL l:=by
  have h1:=sizeL_take h;have h2:=sizeL_le (l:=l) (k:=i+1);have h3:=Sh.size_eq (l.getD i default);omega
theorem shsLen_le:∀ l:List Sh,l.length≤sizeL l
  | []=>Nat.zero_le _
  | p :: ps=>by
    have:=shsLen_le ps;have h:1≤p.size:=by cases p;simp [Sh.size]
    simp only [List.length_cons,sizeL];omega
theorem nm_get {l:List Sh} (h:allL nmB l=true) {i:Nat} (hi:i<l.length):(l.getD i default).names.length≤1000000∧allL nmB (l.getD i default).parts=true:=by
  rw [allL_all,List.all_eq_true] at h;have h1:=h _ (List.getElem_mem hi);rw [List.getD_eq_getElem?_getD,List.getElem?_eq_getElem hi];show (l[i]).names.length≤_∧allL nmB (l[i]).parts=true;rw [Sh.allB_eq,Bool.and_eq_true] at h1;exact ⟨of_decide_eq_true h1.1,h1.2⟩
theorem copies_tm:∀ (N:Nat) (l:List Sh),SizeOf.sizeOf l<N→sizeL l≤100000000→allL nmB l=true→∀ (A0:Nat→Prop) (v:Value) (w:World),ShsAt A0 w v l→
    Ret Tryz.prog 40 #[v] w fun r w'=>ShsAt (fun k=>k<w.heap.size) w' r l∧Bel w w':=by
  intro N;induction N with
  | zero=>intro l h;omega
  | succ N ih=>
    intro l hN hS hnm A0 v w h0;obtain ⟨M,h,hU⟩:∃ M:Nat→Prop,ShsAt M w v l∧(∀ k,w.heap.size≤k→M k):=⟨_,h0.up,fun _=>.inr⟩;obtain ⟨p,cap,row,rfl,p1,p2,p3,hr⟩:=h;have hll:=shsLen_le l;refine ret_of_W Tryz.func40 rfl (Nat.le_of_ble_eq_true rfl) (res1 rfl) ?_;have hB:=Gr.refl (fun _=>False) w;refine W.seq (W.region (L.val (x_as (v:=.slice _ _ _) rfl) rfl ?_));refine L.nil (thn_n (W.seq (W.region (L.val (x_as (v:=.slice _ _ _) rfl) rfl ?_))));refine L.nil (thn_n (W.seq (W.seq (W.region (L.val (x_mv (v:=.slice _ _ _) rfl) rfl ?_)))));refine L.val (x_len_slice Tryz.underlying23 rfl) rfl ?_;refine L.val (x_mv (v:=.int _ _) rfl) rfl ?_;refine L.nil (thn_n (W.block (W.loop (fun m' E w'=>∃ (i:Nat) (vO:Value) (rows:List (List Value)),m'=l.length - i∧E 3=vO∧E 6=.slice p l.length cap∧E 7=.int .i64 (l.length:Nat)∧E 8=.int .i64 (i:Nat)∧(i≤l.length)∧(Bel w w')∧(ShRow M w' p row l)∧(GrowC ShC 5 45 w.heap.size w' vO (l.take i) rows)) (l.length) ?_ ?_)))
    ·exact ⟨0,.slice none 0 0,[],by omega,vi_,vi_,vi_,vi_,ao_,ao_,ao_,(by exact GrowC.nil)⟩
    ·rintro _ E wL9 ⟨i,vO,rows,em,e3,e6,e7,e8,hi,hB,hr,hG⟩;rw [upd_self e3,upd_self e6,upd_self e7,upd_self e8];refine W.seq (W.region (L.val (x_lss rfl rfl) rfl ?_));refine L.nil (thn_n (W.seq (W.cond (b:=_) rfl (fun g9=>?_) (fun g9=>?_))))
     ·have h9:=of_decide_eq_true g9;have hlt:i<l.length:=by omega
      obtain ⟨b,o,rfl,-⟩:=hr.elem hlt;obtain ⟨aO,cO,rfl,hcO⟩:=hG.shape;have hloO:=fun j hj=>hG.lt (j:=j) hj
      have hlI:(l.take i).length=i:=by rw [List.length_take];omega
      obtain ⟨vn,vp,erow,hn,hp,hof,hnm1⟩:=(hr.each i hlt).inv;have hcr:=hr.elemAt hlt;rw [erow] at hcr;have hs9:=hB.size;obtain ⟨hq1,hq2⟩:=nm_get hnm hlt;have hq3:=sizeOf_get hlt;have hq4:=sizeL_get hlt;obtain ⟨pn,cn,rfl,-⟩:=id hn;obtain ⟨pp,cp,rp,rfl,-⟩:=id hp;obtain ⟨x,hx⟩:∃ x,x=l.getD i default:=⟨_,rfl⟩;rw [← hx] at hn hp hof hnm1 hq1 hq2 hq3 hq4 hcr;have hS:=Since.refl wL9;refine W.skip (thn_n (W.seq (W.block (W.seq (W.region (L.val (x_ia (j:=i) Tryz.underlying23 ktm8_sz45 rfl rfl om_ om_) rfl ?_))))));refine L.val (x_ldn (vs:=[.int .i64 x.kind,S x.of,S x.name,.slice pn x.names.length cn,.slice pp x.parts.length cp]) ktm8_ag45 rfl rfl hcr) rfl ?_;refine L.alloc (cs:=[Value.int .i64 0,S [],S [],Value.slice none 0 0,Value.slice none 0 0]) ktm8_zr45 rfl rfl (fun w5 bx5 hw hz5=>?_);have hB:=hB.carry hw;have hr:=hr.carry hw;have hS:=hS.carry hw;have hn:=hn.carry hw;have hp:=hp.carry hw;refine L.setRow ktm8_ag45 rfl rfl bx5 rfl rfl (by simp [Value.oneCell',S]) (fun wl10 bx5 hw hzl10=>?_);have hsz:=hB.size;have hB:=hB.set hw om_;have hr:=hr.carryR hw (fun k e=>hU k (by have:k=_:=e;omega));have hS:=hS.carryR hw (fun k e=>by have e:k=_:=e;omega);have hn:=hn.carryR hw (fun k e=>hU k (by have:k=_:=e;omega));have hp:=hp.carryR hw (fun k e=>hU k (by have:k=_:=e;omega));refine L.nil (thn_n (W.seq (W.drawS ktm8_mixed ?_)));have hB:=hB.carry (bel_drew _);have hr:=hr.carry (bel_drew _);have hS:=hS.carry (bel_drew _);have hn:=hn.carry (bel_drew _);have hp:=hp.carry (bel_drew _);have bx5:=bx5.carry (bel_drew _);refine LA.take (i:=0) rfl kr_ kr_ kr_ (fun w=>x_fa ktm8_fo45_3 rfl) rfl ?_;refine LA.take (i:=3) rfl kr_ kr_ kr_ (fun w=>x_fa ktm8_fo45_4 rfl) rfl ?_;refine LA.step (rs:=[1,4]) kr_ (by simp) ⟨⟨_,rfl,?_⟩,⟨_,rfl,?_⟩,trivial⟩
      ·refine L.val (x_ld (v:=.slice _ _ _) ktm8_oc22 rfl (bx5.cell0 rfl)) rfl ?_;refine L.nil (thn_n (LA.step (rs:=[2,4]) kr_ (by simp) ⟨⟨_,rfl,?_⟩,⟨_,rfl,?_⟩,trivial⟩))
       ·have hz14:=bx5.lt;refine L.ret (x_call ktm8_en39 rfl) rfl (clone_tm M _ x.names _ hn om_) ?_;rintro v14 w14 ⟨hc14,hw⟩;have hB:=hB.carry hw;have hr:=hr.carry hw;have hS:=hS.carry hw;have hn:=hn.carry hw;have hp:=hp.carry hw;have bx5:=bx5.carry hw;have hc14:=hc14.mono (A':=fun k=>k≤wL9.heap.size) (fun k _ e=>by have e:k≤_:=e;show k<_;omega);obtain ⟨p14,c14,rfl,-⟩:=id hc14;refine L.nil (thn_n (LA.step (rs:=[4]) kr_ (by simp) ⟨⟨_,rfl,?_⟩,trivial⟩));refine L.val (x_ld (v:=.slice _ _ _) ktm8_oc23 rfl (bx5.cell0 rfl)) rfl ?_;refine L.nil (thn_n (LA.take (i:=6) rfl kr_ kr_ kr_ (fun w=>x_fa ktm8_fo45_3 rfl) rfl ?_));refine LA.step (rs:=[5]) kr_ (by simp) ⟨⟨_,rfl,?_⟩,trivial⟩;have hz17:=bx5.lt;refine L.ret (x_call ktm8_en40 rfl) rfl (ih x.parts om_ om_ hq2 M _ _ hp) ?_;rintro v17 w17 ⟨hc17,hw⟩;have hB:=hB.carry hw;have hr:=hr.carry hw;have hS:=hS.carry hw;have hn:=hn.carry hw;have hp:=hp.carry hw;have bx5:=bx5.carry hw;have hc14:=hc14.carry hw;have hc17:=hc17.mono (A':=fun k=>k≤wL9.heap.size) (fun k _ e=>by have e:k≤_:=e;show k<_;omega);obtain ⟨p17,c17,r17,rfl,-⟩:=id hc17;refine L.nil (thn_n (LA.step (rs:=[7]) kr_ (by simp) ⟨⟨_,rfl,?_⟩,trivial⟩));refine L.set (v:=.slice _ _ _) ktm8_sz22 rfl rfl rfl bx5 rfl (fun wl18 bx5 hw hzl18=>?_);have hsz:=hB.size;have hB:=hB.set hw om_;have hr:=hr.carryR hw (fun k e=>hU k (by have:k=_:=e;omega));have hS:=hS.carryR hw (fun k e=>by have e:k=_:=e;omega);have hn:=hn.carryR hw (fun k e=>hU k (by have:k=_:=e;omega));have hp:=hp.carryR hw (fun k e=>hU k (by have:k=_:=e;omega));have hc14:=hc14.carryR hw (fun k e=>by have e:k=_:=e;show k≤_;omega);have hc17:=hc17.carryR hw (fun k e=>by have e:k=_:=e;show k≤_;omega);refine L.nil (thn_n (LA.take (i:=8) rfl kr_ kr_ kr_ (fun w=>x_fa ktm8_fo45_4 rfl) rfl ?_));refine LA.step (rs:=[9]) kr_ (by simp) ⟨⟨_,rfl,?_⟩,trivial⟩;refine L.set (v:=.slice _ _ _) ktm8_sz23 rfl rfl rfl bx5 rfl (fun wl20 bx5 hw hzl20=>?_);have hsz:=hB.size;have hB:=hB.set hw om_;have hr:=hr.carryR hw (fun k e=>hU k (by have:k=_:=e;omega));have hS:=hS.carryR hw (fun k e=>by have e:k=_:=e;omega);have hn:=hn.carryR hw (fun k e=>hU k (by have:k=_:=e;omega));have hp:=hp.carryR hw (fun k e=>hU k (by have:k=_:=e;omega));have hc14:=hc14.carryR hw (fun k e=>by have e:k=_:=e;show k≤_;omega);have hc17:=hc17.carryR hw (fun k e=>by have e:k=_:=e;show k≤_;omega);refine L.nil (thn_n (LA.done kr_ ?_));refine nrm_n (thn_n (W.region (L.val (x_mv (v:=.slice _ _ _) rfl) rfl ?_)));refine L.val (x_ldn (vs:=[.int .i64 x.kind,S x.of,S x.name,.slice p14 x.names.length c14,.slice p17 x.parts.length c17]) ktm8_ag45 rfl rfl (bx5.row rfl)) rfl ?_;refine L.bs (sz:=5) (cells:=[.int .i64 x.kind,S x.of,S x.name,.slice p14 x.names.length c14,.slice p17 x.parts.length c17]) Tryz.underlying23 ktm8_el45 rfl rfl rfl rfl (fun w22 bx22 hw hz22=>?_);have hB:=hB.carry hw;have hr:=hr.carry hw;have hS:=hS.carry hw;have hn:=hn.carry hw;have hp:=hp.carry hw;have bx5:=bx5.carry hw;have hc14:=hc14.carry hw;have hc17:=hc17.carry hw;have hG1:=hG.carryR (R:=fun _=>False) hS.bel (fun _ f=>f.elim);have hsN:=hB.size;have hsS:=hS.size;refine L.appendN (m:=1) Tryz.underlying23 ktm8_el45 rfl rfl rfl hG1.2 rfl (holdsN_box bx22) (by simp [Value.oneCell',S]) om_ om_ (fun v23 w23 hO23 hg hob23=>?_);obtain ⟨a23,c23,e23,-⟩:=own_shape hO23;subst e23;have hel:=ShC.intro (k:=x.kind) hc14 hc17 hof hnm1;rw [show Sh.mk x.kind x.of x.name x.names x.parts=x by cases x;rfl] at hel;have hG2:=hG1.snoc (x:=x) (by
          refine hel.mono fun j hj e=>?_
          rcases e with e | e | e
          · show j≤_;omega
          · have:=hloO j e;show j≤_;omega
          · omega) hO23 hg hob23
        have hB:=hB.step hg (fun j hj e=>by have:=hloO j e;omega);have hr:=hr.carryR hg (fun k e=>hU k (hloO k e).1);rw [show l.take i++[x]=l.take (i+1) by rw [hx];exact (take_snoc hlt).symm] at hG2;refine L.val (x_as (v:=.slice _ _ _) rfl) rfl ?_;refine L.nil (blk_n (thn_n (W.region (L.val (x_add rfl rfl (wr64 om_)) rfl ?_))));refine L.val (x_mv (v:=.int _ _) rfl) rfl ?_;refine L.nil (thn_n ⟨rfl,?_⟩);refine ⟨_,?_,i+1,_,_,rfl,vi_,vi_,vi_,vi_,ao_,ao_,ao_,(by exact hG2)⟩;omega
       ·refine L.val (x_ld (v:=.slice _ _ _) ktm8_oc23 rfl (bx5.cell0 rfl)) rfl ?_;refine L.nil (thn_n (LA.step (rs:=[2]) kr_ (by simp) ⟨⟨_,rfl,?_⟩,trivial⟩));have hz14:=bx5.lt;refine L.ret (x_call ktm8_en39 rfl) rfl (clone_tm M _ x.names _ hn om_) ?_;rintro v14 w14 ⟨hc14,hw⟩;have hB:=hB.carry hw;have hr:=hr.carry hw;have hS:=hS.carry hw;have hn:=hn.carry hw;have hp:=hp.carry hw;have bx5:=bx5.carry hw;have hc14:=hc14.mono (A':=fun k=>k≤wL9.heap.size) (fun k _ e=>by have e:k≤_:=e;show k<_;omega);obtain ⟨p14,c14,rfl,-⟩:=id hc14;refine L.nil (thn_n (LA.take (i:=6) rfl kr_ kr_ kr_ (fun w=>x_fa ktm8_fo45_3 rfl) rfl ?_));refine LA.step (rs:=[5]) kr_ (by simp) ⟨⟨_,rfl,?_⟩,trivial⟩;have hz17:=bx5.lt;refine L.ret (x_call ktm8_en40 rfl) rfl (ih x.parts om_ om_ hq2 M _ _ hp) ?_;rintro v17 w17 ⟨hc17,hw⟩;have hB:=hB.carry hw;have hr:=hr.carry hw;have hS:=hS.carry hw;have hn:=hn.carry hw;have hp:=hp.carry hw;have bx5:=bx5.carry hw;have hc14:=hc14.carry hw;have hc17:=hc17.mono (A':=fun k=>k≤wL9.heap.size) (fun k _ e=>by have e:k≤_:=e;show k<_;omega);obtain ⟨p17,c17,r17,rfl,-⟩:=id hc17;refine L.nil (thn_n (LA.step (rs:=[7]) kr_ (by simp) ⟨⟨_,rfl,?_⟩,trivial⟩));refine L.set (v:=.slice _ _ _) ktm8_sz22 rfl rfl rfl bx5 rfl (fun wl18 bx5 hw hzl18=>?_);have hsz:=hB.size;have hB:=hB.set hw om_;have hr:=hr.carryR hw (fun k e=>hU k (by have:k=_:=e;omega));have hS:=hS.carryR hw (fun k e=>by have e:k=_:=e;omega);have hn:=hn.carryR hw (fun k e=>hU k (by have:k=_:=e;omega));have hp:=hp.carryR hw (fun k e=>hU k (by have:k=_:=e;omega));have hc14:=hc14.carryR hw (fun k e=>by have e:k=_:=e;show k≤_;omega);have hc17:=hc17.carryR hw (fun k e=>by have e:k=_:=e;show k≤_;omega);refine L.nil (thn_n (LA.take (i:=8) rfl kr_ kr_ kr_ (fun w=>x_fa ktm8_fo45_4 rfl) rfl ?_));refine LA.step (rs:=[9]) kr_ (by simp) ⟨⟨_,rfl,?_⟩,trivial⟩;refine L.set (v:=.slice _ _ _) ktm8_sz23 rfl rfl rfl bx5 rfl (fun wl20 bx5 hw hzl20=>?_);have hsz:=hB.size;have hB:=hB.set hw om_;have hr:=hr.carryR hw (fun k e=>hU k (by have:k=_:=e;omega));have hS:=hS.carryR hw (fun k e=>by have e:k=_:=e;omega);have hn:=hn.carryR hw (fun k e=>hU k (by have:k=_:=e;omega));have hp:=hp.carryR hw (fun k e=>hU k (by have:k=_:=e;omega));have hc14:=hc14.carryR hw (fun k e=>by have e:k=_:=e;show k≤_;omega);have hc17:=hc17.carryR hw (fun k e=>by have e:k=_:=e;show k≤_;omega);refine L.nil (thn_n (LA.done kr_ ?_));refine nrm_n (thn_n (W.region (L.val (x_mv (v:=.slice _ _ _) rfl) rfl ?_)));refine L.val (x_ldn (vs:=[.int .i64 x.kind,S x.of,S x.name,.slice p14 x.names.length c14,.slice p17 x.parts.length c17]) ktm8_ag45 rfl rfl (bx5.row rfl)) rfl ?_;refine L.bs (sz:=5) (cells:=[.int .i64 x.kind,S x.of,S x.name,.slice p14 x.names.length c14,.slice p17 x.parts.length c17]) Tryz.underlying23 ktm8_el45 rfl rfl rfl rfl (fun w22 bx22 hw hz22=>?_);have hB:=hB.carry hw;have hr:=hr.carry hw;have hS:=hS.carry hw;have hn:=hn.carry hw;have hp:=hp.carry hw;have bx5:=bx5.carry hw;have hc14:=hc14.carry hw;have hc17:=hc17.carry hw;have hG1:=hG.carryR (R:=fun _=>False) hS.bel (fun _ f=>f.elim);have hsN:=hB.size;have hsS:=hS.size;refine L.appendN (m:=1) Tryz.underlying23 ktm8_el45 rfl rfl rfl hG1.2 rfl (holdsN_box bx22) (by simp [Value.oneCell',S]) om_ om_ (fun v23 w23 hO23 hg hob23=>?_);obtain ⟨a23,c23,e23,-⟩:=own_shape hO23;subst e23;have hel:=ShC.intro (k:=x.kind) hc14 hc17 hof hnm1;rw [show Sh.mk x.kind x.of x.name x.names x.parts=x by cases x;rfl] at hel;have hG2:=hG1.snoc (x:=x) (by
          refine hel.mono fun j hj e=>?_
          rcases e with e | e | e
          · show j≤_;omega
          · have:=hloO j e;show j≤_;omega
          · omega) hO23 hg hob23
        have hB:=hB.step hg (fun j hj e=>by have:=hloO j e;omega);have hr:=hr.carryR hg (fun k e=>hU k (hloO k e).1);rw [show l.take i++[x]=l.take (i+1) by rw [hx];exact (take_snoc hlt).symm] at hG2;refine L.val (x_as (v:=.slice _ _ _) rfl) rfl ?_;refine L.nil (blk_n (thn_n (W.region (L.val (x_add rfl rfl (wr64 om_)) rfl ?_))));refine L.val (x_mv (v:=.int _ _) rfl) rfl ?_;refine L.nil (thn_n ⟨rfl,?_⟩);refine ⟨_,?_,i+1,_,_,rfl,vi_,vi_,vi_,vi_,ao_,ao_,ao_,(by exact hG2)⟩;omega
      ·refine L.val (x_ld (v:=.slice _ _ _) ktm8_oc23 rfl (bx5.cell0 rfl)) rfl ?_;refine L.nil (thn_n (LA.step (rs:=[1]) kr_ (by simp) ⟨⟨_,rfl,?_⟩,trivial⟩));refine L.val (x_ld (v:=.slice _ _ _) ktm8_oc22 rfl (bx5.cell0 rfl)) rfl ?_;refine L.nil (thn_n (LA.step (rs:=[2]) kr_ (by simp) ⟨⟨_,rfl,?_⟩,trivial⟩));have hz14:=bx5.lt;refine L.ret (x_call ktm8_en39 rfl) rfl (clone_tm M _ x.names _ hn om_) ?_;rintro v14 w14 ⟨hc14,hw⟩;have hB:=hB.carry hw;have hr:=hr.carry hw;have hS:=hS.carry hw;have hn:=hn.carry hw;have hp:=hp.carry hw;have bx5:=bx5.carry hw;have hc14:=hc14.mono (A':=fun k=>k≤wL9.heap.size) (fun k _ e=>by have e:k≤_:=e;show k<_;omega);obtain ⟨p14,c14,rfl,-⟩:=id hc14;refine L.nil (thn_n (LA.take (i:=6) rfl kr_ kr_ kr_ (fun w=>x_fa ktm8_fo45_3 rfl) rfl ?_));refine LA.step (rs:=[5]) kr_ (by simp) ⟨⟨_,rfl,?_⟩,trivial⟩;have hz17:=bx5.lt;refine L.ret (x_call ktm8_en40 rfl) rfl (ih x.parts om_ om_ hq2 M _ _ hp) ?_;rintro v17 w17 ⟨hc17,hw⟩;have hB:=hB.carry hw;have hr:=hr.carry hw;have hS:=hS.carry hw;have hn:=hn.carry hw;have hp:=hp.carry hw;have bx5:=bx5.carry hw;have hc14:=hc14.carry hw;have hc17:=hc17.mono (A':=fun k=>k≤wL9.heap.size) (fun k _ e=>by have e:k≤_:=e;show k<_;omega);obtain ⟨p17,c17,r17,rfl,-⟩:=id hc17;refine L.nil (thn_n (LA.step (rs:=[7]) kr_ (by simp) ⟨⟨_,rfl,?_⟩,trivial⟩));refine L.set (v:=.slice _ _ _) ktm8_sz22 rfl rfl rfl bx5 rfl (fun wl18 bx5 hw hzl18=>?_);have hsz:=hB.size;have hB:=hB.set hw om_;have hr:=hr.carryR hw (fun k e=>hU k (by have:k=_:=e;omega));have hS:=hS.carryR hw (fun k e=>by have e:k=_:=e;omega);have hn:=hn.carryR hw (fun k e=>hU k (by have:k=_:=e;omega));have hp:=hp.carryR hw (fun k e=>hU k (by have:k=_:=e;omega));have hc14:=hc14.carryR hw (fun k e=>by have e:k=_:=e;show k≤_;omega);have hc17:=hc17.carryR hw (fun k e=>by have e:k=_:=e;show k≤_;omega);refine L.nil (thn_n (LA.take (i:=8) rfl kr_ kr_ kr_ (fun w=>x_fa ktm8_fo45_4 rfl) rfl ?_));refine LA.step (rs:=[9]) kr_ (by simp) ⟨⟨_,rfl,?_⟩,trivial⟩;refine L.set (v:=.slice _ _ _) ktm8_sz23 rfl rfl rfl bx5 rfl (fun wl20 bx5 hw hzl20=>?_);have hsz:=hB.size;have hB:=hB.set hw om_;have hr:=hr.carryR hw (fun k e=>hU k (by have:k=_:=e;omega));have hS:=hS.carryR hw (fun k e=>by have e:k=_:=e;omega);have hn:=hn.carryR hw (fun k e=>hU k (by have:k=_:=e;omega));have hp:=hp.carryR hw (fun k e=>hU k (by have:k=_:=e;omega));have hc14:=hc14.carryR hw (fun k e=>by have e:k=_:=e;show k≤_;omega);have hc17:=hc17.carryR hw (fun k e=>by have e:k=_:=e;show k≤_;omega);refine L.nil (thn_n (LA.done kr_ ?_));refine nrm_n (thn_n (W.region (L.val (x_mv (v:=.slice _ _ _) rfl) rfl ?_)));refine L.val (x_ldn (vs:=[.int .i64 x.kind,S x.of,S x.name,.slice p14 x.names.length c14,.slice p17 x.parts.length c17]) ktm8_ag45 rfl rfl (bx5.row rfl)) rfl ?_;refine L.bs (sz:=5) (cells:=[.int .i64 x.kind,S x.of,S x.name,.slice p14 x.names.length c14,.slice p17 x.parts.length c17]) Tryz.underlying23 ktm8_el45 rfl rfl rfl rfl (fun w22 bx22 hw hz22=>?_);have hB:=hB.carry hw;have hr:=hr.carry hw;have hS:=hS.carry hw;have hn:=hn.carry hw;have hp:=hp.carry hw;have bx5:=bx5.carry hw;have hc14:=hc14.carry hw;have hc17:=hc17.carry hw;have hG1:=hG.carryR (R:=fun _=>False) hS.bel (fun _ f=>f.elim);have hsN:=hB.size;have hsS:=hS.size;refine L.appendN (m:=1) Tryz.underlying23 ktm8_el45 rfl rfl rfl hG1.2 rfl (holdsN_box bx22) (by simp [Value.oneCell',S]) om_ om_ (fun v23 w23 hO23 hg hob23=>?_);obtain ⟨a23,c23,e23,-⟩:=own_shape hO23;subst e23;have hel:=ShC.intro (k:=x.kind) hc14 hc17 hof hnm1;rw [show Sh.mk x.kind x.of x.name x.names x.parts=x by cases x;rfl] at hel;have hG2:=hG1.snoc (x:=x) (by
         refine hel.mono fun j hj e=>?_
         rcases e with e | e | e
         · show j≤_;omega
         · have:=hloO j e;show j≤_;omega
         · omega) hO23 hg hob23
       have hB:=hB.step hg (fun j hj e=>by have:=hloO j e;omega);have hr:=hr.carryR hg (fun k e=>hU k (hloO k e).1);rw [show l.take i++[x]=l.take (i+1) by rw [hx];exact (take_snoc hlt).symm] at hG2;refine L.val (x_as (v:=.slice _ _ _) rfl) rfl ?_;refine L.nil (blk_n (thn_n (W.region (L.val (x_add rfl rfl (wr64 om_)) rfl ?_))));refine L.val (x_mv (v:=.int _ _) rfl) rfl ?_;refine L.nil (thn_n ⟨rfl,?_⟩);refine ⟨_,?_,i+1,_,_,rfl,vi_,vi_,vi_,vi_,ao_,ao_,ao_,(by exact hG2)⟩;omega
     ·have h9:=dlt_f g9;have hii:i=l.length:=by omega
      rw [hii,List.take_length] at hG;obtain ⟨aO,cO,rfl,hcO⟩:=hG.shape;refine W.exit (thn_x (thn_x (blk_hit ?_)));refine thn_n (W.seq (W.region (L.val (x_mv (v:=.slice _ _ _) rfl) rfl ?_)));refine L.val (x_as (v:=.slice _ _ _) rfl) rfl ?_;refine L.nil (thn_n (W.ret (fin_mk (.inr rfl) ?_)));exact ⟨shs_of_recs (hG.done p3),hB⟩
end Go.Gx
