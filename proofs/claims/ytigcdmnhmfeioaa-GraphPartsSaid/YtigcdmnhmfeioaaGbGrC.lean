/- Arcs in cells, maps of numbers, and where arcs lead. Conditions: none. -/
import Derived.Test.YtigcdmnhmfeioaaGbGrB
import Derived.Test.YtigcdmnhmfeioaaGbGrT
import Derived.Test.YtigcdmnhmfeioaaGbRec
namespace Go.Gx
open Go.Proofs Go.Sort
theorem kgrc_en30:Go.Proofs.Enters Try.prog 30:=Go.Proofs.enters_of Try.func30 kr_ rfl
theorem kgrc_oc9:oneCellT Try.prog 9=true:=by kernel_rfl
theorem kgrc_sz9:(Try.prog.info? 9).map (·.size)=some 1:=by kernel_rfl
def arV (x:Arc):List Value:=[S x.1,S x.2]
def ArC (_A:Nat→Prop) (_w:World) (cs:List Value) (x:Arc):Prop:=cs=arV x∧x.1.length≤9223372036854775807∧x.2.length≤9223372036854775807
instance car_ar:Car ArC 2 where
  pos:=by omega
  len:=fun h=>by rw [h.1];rfl
  one:=fun h=>by
    rw [h.1]
    intro v hv
    simp only [arV,List.mem_cons,List.not_mem_nil,or_false] at hv
    rcases hv with rfl | rfl <;> rfl
  move:=fun _ h=>h
abbrev ArcsAt (A:Nat→Prop) (w:World) (v:Value) (l:List Arc):Prop:=RecsAt ArC 2 A w v l
abbrev IM (w:World) (b:Nat) (m:List (Str × Int)):Prop:=MapAtK S (fun _=>True) w b (encI m)
theorem once36 (A0:Nat→Prop) (v:Value) (l:List Str) (w:World) (h0:StrsAt A0 w v l) (hl:l.length≤400000):
    Ret Try.prog 28 #[v] w fun r w'=>StrsAt (fun k=>k<w.heap.size) w' r (onceL l)∧Bel w w':=by
  obtain ⟨A,h,hU⟩:∃ A:Nat→Prop,StrsAt A w v l∧(∀ k,w.heap.size≤k→A k):=⟨_,h0.up,fun _=>.inr⟩;obtain ⟨p,cap,rfl,h1,h2,h3,h4,-⟩:=id h;refine ret_of_W Try.func28 rfl (Nat.le_of_ble_eq_true rfl) (res1 rfl) ?_;have hB:=Gr.refl (fun _=>False) w;refine W.seq (W.region (L.val (x_as (v:=.slice _ _ _) rfl) rfl ?_));refine L.nil (thn_n (W.seq (W.region (L.val (x_as (v:=.slice _ _ _) rfl) rfl ?_))));refine L.nil (thn_n (W.seq (W.seq (W.region (L.val (x_as (v:=.int _ _) rfl) rfl ?_)))));refine L.nil (thn_n (W.block (W.loop (fun m' E w'=>∃ (k:Nat) (vo:Value),m'=l.length - k∧E 0=.slice p l.length cap∧E 3=vo∧E 4=.int .i64 (k:Nat)∧(k≤l.length)∧(Bel w w')∧(StrsAt A w' (.slice p l.length cap) l)∧(StrsAt (fun j=>j<w.heap.size) w' vo (onceL (l.take k)))) (l.length) ?_ ?_)))
  ·exact ⟨0,.slice none 0 0,by omega,vi_,vi_,vi_,ao_,ao_,ao_,(by exact StrsAt.nil _ _ _ _ om_)⟩
  ·rintro _ E wL5 ⟨k,vo,em,e0,e3,e4,hk,hB,h,ho⟩;rw [upd_self e0,upd_self e3,upd_self e4];refine W.seq (W.seq (W.region ?_));have hsL:=hB.size;obtain ⟨po,co,eo,-⟩:=id ho;subst eo;refine L.val (x_mv (v:=.int _ _) rfl) rfl ?_;refine L.val (x_mv (v:=.slice _ _ _) rfl) rfl ?_;refine L.val (x_len_slice Try.underlying23 rfl) rfl ?_;refine L.val (x_lss rfl rfl) rfl ?_;refine L.nil (thn_n (W.cond (b:=_) rfl (fun g8=>?_) (fun g8=>?_)))
   ·have h8:=of_decide_eq_true g8;have hlt:k<l.length:=by omega
    obtain ⟨b,o,rfl,hcl⟩:=h.elem hlt;have hx:=h4 (l.getD k []) (by rw [List.getD_eq_getElem?_getD,List.getElem?_eq_getElem hlt];exact List.getElem_mem _);have hlo:(onceL (l.take k)).length≤400000:=by
      have:=strict_len_le (strict_once (l.take k)).nodup (m:=l.take k) fun x hx=>mem_once.1 hx
      rw [List.length_take] at this;omega
    refine W.skip (thn_n (W.seq (W.block (W.region (L.val (x_mv (v:=.slice _ _ _) rfl) rfl ?_)))));refine L.val (x_mv (v:=.slice _ _ _) rfl) rfl ?_;refine L.val (x_mv (v:=.int _ _) rfl) rfl ?_;refine L.val (x_ia1 (j:=k) Try.underlying23 kgrc_sz9 rfl rfl om_ om_) rfl ?_;refine L.val (x_ld (v:=S _) kgrc_oc9 rfl hcl) rfl ?_;refine L.ret (x_call kgrc_en30 rfl) rfl (add36 _ _ _ _ _ ho hx hlo) ?_;rintro v16 w16 ⟨ha,hw⟩;have hB:=hB.carry hw;have h:=h.carry hw;have ho:=ho.carry hw;have hs16:=hB.size;have ho2:=ha.mono (A':=fun j=>j<w.heap.size) (fun j _ h=>⟨h,by have h:j<w.heap.size:=h;omega⟩);obtain ⟨p16,c16,e16,-⟩:=id ho2;subst e16;refine L.val (x_as (v:=.slice _ _ _) rfl) rfl ?_;refine L.nil (blk_n (thn_n (W.region (L.val (x_mv (v:=.int _ _) rfl) rfl ?_))));refine L.val (x_add rfl rfl (wr64 om_)) rfl ?_;refine L.val (x_as (v:=.int _ _) rfl) rfl ?_;refine L.nil (thn_n ⟨rfl,?_⟩);refine ⟨_,?_,k+1,_,rfl,vi_,vi_,vi_,ao_,ao_,ao_,(by rw [onceL_take hlt];exact ho2)⟩;omega
   ·have h8:=dlt_f g8;refine W.exit (thn_x (thn_x (blk_hit ?_)));refine thn_n (W.seq (W.region (L.val (x_mv (v:=.slice _ _ _) rfl) rfl ?_)));refine L.val (x_as (v:=.slice _ _ _) rfl) rfl ?_;refine L.nil (thn_n (W.ret (fin_mk (.inr rfl) ?_)));have hkl:k=l.length:=by omega
    rw [hkl,List.take_length] at ho;rw [hkl,List.take_length];exact ⟨ho,hB⟩
end Go.Gx
namespace Go.Gx
open Go.ChangeShapes Go.WideShapes Go.Deep Go.RowKit
section
variable {H:Type} {enc:TypeId × Value→H} {P:Program} {w:World} {base:Nat} {spare:Nat→Bool} {held:Bool}
structure ArT (P:Program) (tB:TypeId) (g0 g1:Field):Prop where
  hB:P.underlying tB=some (.struct #[g0,g1])
  h0:P.underlying g0.type=some .string
  h1:P.underlying g1.type=some .string
  o:g0.offset=0∧g1.offset=1
  c:P.cellsOf g0.type=1∧P.cellsOf g1.type=1∧P.cellsOf tB=2
theorem ar_open {tB:TypeId} {g0 g1:Field} (G:ArT P tB g0 g1) (fuel:Nat) (cs:List Value) (x:DataW H × List MemPlace) (h:DataW.trod enc P w base spare held fuel tB cs=some x):∃ e,ArC (fun _=>False) w cs e:=by
  obtain ⟨xs,n,rfl,rfl,hlen,hxl,hf⟩:=DataW.trod_struct G.hB h;obtain ⟨o0,o1⟩:=G.o;obtain ⟨c0,c1,c3⟩:=G.c;rw [c3] at hlen
  match cs,hlen with
  | [v0,v1],_=>
    match xs,hxl with
    | [x0,x1],_=>
      have g0':=hf 0 g0 rfl;have g1':=hf 1 g1 rfl;rw [o0,c0] at g0';rw [o1,c1] at g1';obtain ⟨s0,e0,-,l0⟩:=DataW.trod_string G.h0 (x:=x0) g0';obtain ⟨s1,e1,-,l1⟩:=DataW.trod_string G.h1 (x:=x1) g1';simp at e0 e1;refine ⟨(s0.data.toList,s1.data.toList),?_,max_le l0,max_le l1⟩;rw [e0,e1];simp [arV,S]
theorem ars_arg {tE tB:TypeId} {g0 g1:Field} (hE:P.underlying tE=some (.slice tB)) (hb:2≤P.bytesOf tB) (G:ArT P tB g0 g1) {W:World} {base:Nat} {v:Value} {d:DataW H} {p:List MemPlace}
    (hv:Value.okWide P W .any base tE v) (h:DataW.Trod enc P W 0 (fun _=>true) true tE v d p) (hw:(d.weights P tE).all (· ≤ reachBytes)=true):∃ l,ArcsAt (fun _=>False) W v l:=
  recs_arg hE G.c.2.2 om_ hb (fun fuel cs x h _=>ar_open G fuel cs x h) hv h hw
theorem strsl_argU {tE e:TypeId} (ht:P.underlying tE=some (.slice e)) (he:P.underlying e=some .string) (hc:P.cellsOf e=1) (hb:2≤P.bytesOf e) {W:World} {base:Nat} {v:Value} {d:DataW H} {p:List MemPlace}
    (hv:Value.okWide P W .any base tE v) (h:DataW.Trod enc P W 0 (fun _=>true) true tE v d p) (hw:(d.weights P tE).all (· ≤ reachBytes)=true):∃ l,StrsAt (fun _=>False) W v l:=by
  obtain ⟨fuel,h⟩:=h;have hcells:v.cells.toList=[v]:=by
    unfold Value.okWide at hv;rw [ht] at hv;cases v <;> simp_all [Value.cells,Cell.okWide,Cell.ok]
  rw [hcells] at h;exact strs_open ht he hc hb h hw
end
end Go.Gx
namespace Go.Gx
open Go.Proofs Go.Sort
theorem kgrd_ag36:aggT Try.prog 36 2=true:=by kernel_rfl
theorem kgrd_el36:elT Try.prog 36 2=true:=by kernel_rfl
theorem kgrd_en29:Go.Proofs.Enters Try.prog 29:=Go.Proofs.enters_of Try.func29 kr_ rfl
theorem kgrd_fo36_0:fieldOff Try.prog 36 0=some 0:=by kernel_rfl
theorem kgrd_fo36_1:fieldOff Try.prog 36 1=some 1:=by kernel_rfl
theorem kgrd_oc9:oneCellT Try.prog 9=true:=by kernel_rfl
theorem kgrd_sz36:(Try.prog.info? 36).map (·.size)=some 2:=by kernel_rfl
theorem kgrd_sz9:(Try.prog.info? 9).map (·.size)=some 1:=by kernel_rfl
theorem kgrd_zr36:(Try.prog.info? 36).bind (·.zero)=some (Value.agg [S [],S []].toArray):=by kernel_rfl
theorem rowsAr {A:Nat→Prop} {w:World} {l:List Arc} (hx:∀ a∈l,a.1.length≤9223372036854775807∧a.2.length≤9223372036854775807):RowsC ArC A w (l.map arV) l:=
  ⟨by simp,fun i hi=>by
    have hm:l.getD i default∈l:=by rw [List.getD_eq_getElem?_getD,List.getElem?_eq_getElem hi];exact List.getElem_mem _
    refine ⟨?_,(hx _ hm).1,(hx _ hm).2⟩;simp [List.getD_eq_getElem?_getD,List.getElem?_eq_getElem hi]⟩
theorem arcs_done {A:Nat→Prop} {w:World} {base:Nat} {e:TypeId} {v:Value} {l:List Arc} (h:Own w base e 2 v l.length (l.map arV).flatten) (hx:∀ a∈l,a.1.length≤9223372036854775807∧a.2.length≤9223372036854775807) (hl:l.length≤70368744177664) (hb:∀ j,base≤j→¬ A j):ArcsAt A w v l:=
  RowsC.done (rowsAr (A:=A) hx) h hl (fun _ h=>h) hb
theorem arcs_len {A:Nat→Prop} {w:World} {p:Option Addr} {row:Nat→List Value} {l:List Arc} (h:RecRow ArC 2 A w p row l):∀ a∈l,a.1.length≤9223372036854775807∧a.2.length≤9223372036854775807:=fun a ha=>by
  obtain ⟨i,hi,rfl⟩:=List.getElem_of_mem ha;have:=h.each i hi;rw [List.getD_eq_getElem?_getD,List.getElem?_eq_getElem hi] at this;exact ⟨this.2.1,this.2.2⟩
theorem count_take {all:List Str} {l:List Arc} {i:Nat} (h:i<l.length):countL all (l.take (i+1))=countL all (l.take i)++if (all.contains (l.getD i default).1 && all.contains (l.getD i default).2)=true then [l.getD i default] else []:=by
  unfold countL;rw [take_snoc (d:=default) h,List.filter_append];congr 1;rw [List.filter_cons];rfl
theorem count_len (all:List Str) (l:List Arc):(countL all l).length≤l.length:=List.length_filter_le _ _
theorem counts36 (A0 A1:Nat→Prop) (v u:Value) (all:List Str) (l:List Arc) (w:World) (h0:StrsAt A0 w v all) (h1:ArcsAt A1 w u l) (hll:l.length≤400000):
    Ret Try.prog 40 #[v,u] w fun r w'=>ArcsAt (fun k=>k<w.heap.size) w' r (countL all l)∧Bel w w':=by
  obtain ⟨A,h,hU⟩:∃ A:Nat→Prop,StrsAt A w v all∧(∀ k,w.heap.size≤k→A k):=⟨_,h0.up,fun _=>.inr⟩;obtain ⟨B,hb,hV⟩:∃ A:Nat→Prop,ArcsAt A w u l∧(∀ k,w.heap.size≤k→A k):=⟨_,RecsAt.up h1,fun _=>.inr⟩;obtain ⟨q,cq,rfl,-⟩:=id h;obtain ⟨p,cap,row,rfl,a1,a2,a3,hr⟩:=hb;have hxl:=arcs_len hr;refine ret_of_W Try.func40 rfl (Nat.le_of_ble_eq_true rfl) (res1 rfl) ?_;have hB:=Gr.refl (fun _=>False) w;refine W.seq (W.region (L.val (x_as (v:=.slice _ _ _) rfl) rfl ?_));refine L.nil (thn_n (W.seq (W.region (L.val (x_as (v:=.slice _ _ _) rfl) rfl ?_))));refine L.nil (thn_n (W.seq (W.seq (W.region (L.val (x_as (v:=.int _ _) rfl) rfl ?_)))));refine L.nil (thn_n (W.block (W.loop (fun m' E w'=>∃ (i:Nat) (vO:Value),m'=l.length - i∧E 0=.slice q all.length cq∧E 1=.slice p l.length cap∧E 5=vO∧E 6=.int .i64 (i:Nat)∧(i≤l.length)∧(Bel w w')∧(StrsAt A w' (.slice q all.length cq) all)∧(RecRow ArC 2 B w' p row l)∧(Own w' w.heap.size 36 2 vO (countL all (l.take i)).length ((countL all (l.take i)).map arV).flatten)) (l.length) ?_ ?_)))
  ·exact ⟨0,.slice none 0 0,by omega,vi_,vi_,vi_,vi_,ao_,ao_,ao_,ao_,(by exact own_nil)⟩
  ·rintro _ E wL7 ⟨i,vO,em,e0,e1,e5,e6,hi,hB,h,hr,hO⟩;rw [upd_self e0,upd_self e1,upd_self e5,upd_self e6];refine W.seq (W.seq (W.region ?_));obtain ⟨aO,cO,eO,-⟩:=own_shape hO;subst eO;have hqO:=fun j hj=>Own.lt hO (j:=j) hj
   have hcl:=count_len all (l.take i);rw [List.length_take] at hcl;refine L.val (x_mv (v:=.int _ _) rfl) rfl ?_;refine L.val (x_mv (v:=.slice _ _ _) rfl) rfl ?_;refine L.val (x_len_slice Try.underlying22 rfl) rfl ?_;refine L.val (x_lss rfl rfl) rfl ?_;refine L.nil (thn_n (W.cond (b:=_) rfl (fun g10=>?_) (fun g10=>?_)))
   ·have h10:=of_decide_eq_true g10;have hlt:i<l.length:=by omega
    obtain ⟨pb,po,rfl,-,-⟩:=hr.elem hlt;obtain ⟨ea,-,-⟩:=hr.each i hlt;have hct:=count_take (all:=all) hlt;refine W.skip (thn_n (W.seq (W.block (W.seq (W.region (L.val (x_mv (v:=.slice _ _ _) rfl) rfl ?_))))));refine L.val (x_mv (v:=.slice _ _ _) rfl) rfl ?_;refine L.val (x_mv (v:=.int _ _) rfl) rfl ?_;refine L.val (x_ia (j:=i) Try.underlying22 kgrd_sz36 rfl rfl om_ om_) rfl ?_;refine L.val (x_fa kgrd_fo36_0 rfl) rfl ?_;refine L.val (x_ld (v:=S _) kgrd_oc9 rfl (hr.cell hlt (j:=0) (by rw [ea];rfl))) rfl ?_;refine L.ret (x_call kgrd_en29 rfl) rfl (has36 _ _ all _ _ h) ?_;rintro _ w19 ⟨rfl,hw⟩;have hB:=hB.carry hw;have h:=h.carry hw;have hr:=hr.carry hw;have hO:=hO.carry hw;refine L.val (x_mv (v:=.bool _) rfl) rfl ?_;refine' L.group 7 21 27 27 20 true rfl ?_ ?_ ?_;rotate_left 1
    ·intro g20 hg20;have h20:=g20;refine L.gyes' (dj:=20) (b:=_) rfl rfl g20 ?_;refine L.val (x_mv (v:=.slice _ _ _) rfl) rfl ?_;refine L.gyes' (dj:=20) (b:=_) rfl rfl g20 ?_;refine L.val (x_mv (v:=.slice _ _ _) rfl) rfl ?_;refine L.gyes' (dj:=20) (b:=_) rfl rfl g20 ?_;refine L.val (x_mv (v:=.int _ _) rfl) rfl ?_;refine L.gyes' (dj:=20) (b:=_) rfl rfl g20 ?_;refine L.val (x_ia (j:=i) Try.underlying22 kgrd_sz36 rfl rfl om_ om_) rfl ?_;refine L.gyes' (dj:=20) (b:=_) rfl rfl g20 ?_;refine L.val (x_fa kgrd_fo36_1 rfl) rfl ?_;refine L.gyes' (dj:=20) (b:=_) rfl rfl g20 ?_;refine L.val (x_ld (v:=S _) kgrd_oc9 rfl (hr.cell hlt (j:=1) (by rw [ea];rfl))) rfl ?_;refine L.gyes' (dj:=20) (b:=_) rfl rfl g20 ?_;refine L.ret (x_call kgrd_en29 rfl) rfl (has36 _ _ all _ _ h) ?_;rintro _ w27 ⟨rfl,hw⟩;have hB:=hB.carry hw;have h:=h.carry hw;have hr:=hr.carry hw;have hO:=hO.carry hw;have hg20:=hg20.carry hw;refine L.nil (thn_n ⟨rfl,?_,?_,fun _=>rfl⟩)
     ·exact hg20
     ·repeat (first | exact jeq.refl _ _ _ | refine jeq.upd rfl ?_ | refine jeq.jk rfl rfl ?_)
    ·intro g20;(iterate 7 refine L.gno (dj:=20) (b:=_) rfl rfl g20 rfl ?_);refine L.nil (thn_n ⟨rfl,Gr.refl _ _,?_⟩);refine ⟨?_,fun h=>h.elim⟩;repeat (first | exact jeq.refl _ _ _ | refine jeq.upd rfl ?_ | refine jeq.jk rfl rfl ?_)
    intro J20 w20 hw j20;have hB:=hB.carry hw;have h:=h.carry hw;have hr:=hr.carry hw;have hO:=hO.carry hw;refine L.val (x_and rfl j20) rfl ?_;refine L.nil (thn_n (W.cond (b:=_) rfl (fun g28=>?_) (fun g28=>?_)))
    ·have h28:=g28;rw [if_pos g28] at hct;refine W.region (L.val (x_mv (v:=.slice _ _ _) rfl) rfl ?_);refine L.val (x_mv (v:=.slice _ _ _) rfl) rfl ?_;refine L.val (x_mv (v:=.int _ _) rfl) rfl ?_;refine L.val (x_ia (j:=i) Try.underlying22 kgrd_sz36 rfl rfl om_ om_) rfl ?_;refine L.val (x_ldn (vs:=arV (l.getD i default)) kgrd_ag36 rfl rfl (by have:=hr.elemAt hlt;rw [ea] at this;exact this)) rfl ?_;refine L.bs (sz:=2) (cells:=arV (l.getD i default)) Try.underlying22 kgrd_el36 rfl rfl rfl rfl (fun w34 bx34 hw hz34=>?_);have hB:=hB.carry hw;have h:=h.carry hw;have hr:=hr.carry hw;have hO:=hO.carry hw;have hs35:=hB.size;refine L.append (m:=1) Try.underlying22 kgrd_el36 rfl rfl rfl hO rfl bx34.news (by simp [Value.oneCell',S,arV]) om_ om_ (fun v35 w35 hO35 hg hiff35 hob35=>?_);have hB:=hB.step hg (fun j hj e=>by have:=(hqO _ e).1;omega);have h:=h.carryR hg (fun k e=>hU k (hqO k e).1);have hr:=hr.carryR hg (fun k e=>hV k (hqO k e).1);have hO2:Own w35 w.heap.size 36 2 v35 (countL all (l.take (i+1))).length ((countL all (l.take (i+1))).map arV).flatten:=by
       rw [hct,List.length_append,List.map_append,List.flatten_append];simpa using hO35
     obtain ⟨a35,c35,e35,-⟩:=own_shape hO35;subst e35;refine L.val (x_as (v:=.slice _ _ _) rfl) rfl ?_;refine L.nil (blk_n (thn_n (W.region (L.val (x_mv (v:=.int _ _) rfl) rfl ?_))));refine L.val (x_add rfl rfl (wr64 om_)) rfl ?_;refine L.val (x_as (v:=.int _ _) rfl) rfl ?_;refine L.nil (thn_n ⟨rfl,?_⟩);refine ⟨_,?_,i+1,_,rfl,vi_,vi_,vi_,vi_,ao_,ao_,ao_,ao_,(by exact hO2)⟩;omega
    ·have h28:=g28;rw [if_neg (by rw [g28];simp),List.append_nil] at hct;have hO2:Own w20 w.heap.size 36 2 (.slice aO (countL all (l.take i)).length cO) (countL all (l.take (i+1))).length ((countL all (l.take (i+1))).map arV).flatten:=by rw [hct];exact hO
     refine W.skip (blk_n (thn_n (W.region (L.val (x_mv (v:=.int _ _) rfl) rfl ?_))));refine L.val (x_add rfl rfl (wr64 om_)) rfl ?_;refine L.val (x_as (v:=.int _ _) rfl) rfl ?_;refine L.nil (thn_n ⟨rfl,?_⟩);refine ⟨_,?_,i+1,_,rfl,vi_,vi_,vi_,vi_,ao_,ao_,ao_,ao_,(by exact hO2)⟩;omega
   ·have h10:=dlt_f g10;refine W.exit (thn_x (thn_x (blk_hit ?_)));refine thn_n (W.seq (W.region (L.val (x_mv (v:=.slice _ _ _) rfl) rfl ?_)));refine L.val (x_as (v:=.slice _ _ _) rfl) rfl ?_;refine L.nil (thn_n (W.ret (fin_mk (.inr rfl) ?_)));have hii:i=l.length:=by omega
    rw [hii,List.take_length] at hO;have hcl2:=count_len all l;rw [hii,List.take_length];exact ⟨arcs_done hO (fun a ha=>hxl a (List.mem_filter.1 ha).1) om_ (fun j hj e=>by have e:j<_:=e;omega),hB⟩
theorem among36 (A0 A1:Nat→Prop) (v u:Value) (all:List Str) (l:List Arc) (w:World) (h0:StrsAt A0 w v all) (h1:ArcsAt A1 w u l) (hll:l.length≤400000):
    Ret Try.prog 35 #[v,u] w fun r w'=>ArcsAt (fun k=>k<w.heap.size) w' r (countL all l)∧Bel w w':=by
  obtain ⟨A,h,hU⟩:∃ A:Nat→Prop,StrsAt A w v all∧(∀ k,w.heap.size≤k→A k):=⟨_,h0.up,fun _=>.inr⟩;obtain ⟨B,hb,hV⟩:∃ A:Nat→Prop,ArcsAt A w u l∧(∀ k,w.heap.size≤k→A k):=⟨_,RecsAt.up h1,fun _=>.inr⟩;obtain ⟨q,cq,rfl,h1,h2,h3,-⟩:=id h;obtain ⟨p,cap,row,rfl,a1,a2,a3,hr⟩:=hb;have hxl:=arcs_len hr;refine ret_of_W Try.func35 rfl (Nat.le_of_ble_eq_true rfl) (res1 rfl) ?_;have hB:=Gr.refl (fun _=>False) w;refine W.seq (W.region (L.val (x_as (v:=.slice _ _ _) rfl) rfl ?_));refine L.nil (thn_n (W.seq (W.region (L.mkmapK (κ := Str) (K:=S) (V:=fun _=>True) Try.underlying49 rfl (fun w11 mp hw hz11=>?_)))));have hB:=hB.carry hw;have h:=h.carry hw;have hr:=hr.carry hw;have mp:IM w11 w.heap.size []:=mp;refine L.val (x_as (v:=.map _) rfl) rfl ?_;refine L.nil (thn_n (W.seq (W.seq (W.region (L.val (x_mv (v:=.slice _ _ _) rfl) rfl ?_)))));refine L.val (x_len_slice Try.underlying23 rfl) rfl ?_;refine L.val (x_mv (v:=.int _ _) rfl) rfl ?_;refine L.nil (thn_n (W.block (W.loop (fun m' E w'=>∃ (k:Nat) (m:List (Str × Int)),m'=all.length - k∧E 1=.slice p l.length cap∧E 5=.map (some w.heap.size)∧E 12=.slice q all.length cq∧E 13=.int .i64 (all.length:Nat)∧E 14=.int .i64 (k:Nat)∧(k≤all.length)∧(Bel w w')∧(StrsAt A w' (.slice q all.length cq) all)∧(RecRow ArC 2 B w' p row l)∧(IM w' w.heap.size m)∧(∀ n,getI m n=if (all.take k).contains n then 1 else 0)) (all.length) ?_ ?_)))
  ·exact ⟨0,[],by omega,vi_,vi_,vi_,vi_,vi_,ao_,ao_,ao_,ao_,ao_,(by intro n;rfl)⟩
  ·rintro _ E wL15 ⟨k,m,em,e1,e5,e12,e13,e14,hk,hB,h,hr,mp,hm⟩;rw [upd_self e1,upd_self e5,upd_self e12,upd_self e13,upd_self e14];refine W.seq (W.region (L.val (x_lss rfl rfl) rfl ?_));refine L.nil (thn_n (W.seq (W.cond (b:=_) rfl (fun g15=>?_) (fun g15=>?_))))
   ·have h15:=of_decide_eq_true g15;have hlt:k<all.length:=by omega
    obtain ⟨b,o,rfl,hcl⟩:=h.elem hlt;refine W.skip (thn_n (W.seq (W.block (W.seq (W.region (L.val (x_ia1 (j:=k) Try.underlying23 kgrd_sz9 rfl rfl om_ om_) rfl ?_))))));refine L.val (x_ld (v:=S _) kgrd_oc9 rfl hcl) rfl ?_;refine L.val (x_as (v:=S _) rfl) rfl ?_;refine L.nil (thn_n (W.region (L.val (x_mv (v:=.map _) rfl) rfl ?_)));refine L.val (x_mv (v:=S _) rfl) rfl ?_;refine L.mapsetK (v:=.int .i64 1) Try.underlying49 (klawS Try.underlying9) rfl rfl trivial rfl mp (fun wl13 mp hw hzl13=>?_);rw [encI_put] at mp;have hB:=hB.set hw (Nat.le_refl _);have h:=h.carryR hw (fun k e=>hU k (by have e:k=_:=e;omega));have hr:=hr.carryR hw (fun k e=>hV k (by have e:k=_:=e;omega));have hm2:∀ n,getI (putI m (all.getD k []) 1) n=if (all.take (k+1)).contains n then 1 else 0:=fun n=>by
      rw [getI_put,contains_take hlt,hm];by_cases e:n=all.getD k []
      · rw [if_pos e,e];simp
      · rw [if_neg e];have:(all.getD k [] == n)=false:=by rw [beq_eq_false_iff_ne];exact fun h=>e h.symm
        rw [this,Bool.or_false]
    refine L.nil (blk_n (thn_n (W.region (L.val (x_add rfl rfl (wr64 om_)) rfl ?_))));refine L.val (x_mv (v:=.int _ _) rfl) rfl ?_;refine L.nil (thn_n ⟨rfl,?_⟩);refine ⟨_,?_,k+1,_,rfl,vi_,vi_,vi_,vi_,vi_,ao_,ao_,ao_,ao_,ao_,(by exact hm2)⟩;omega
   ·have h15:=dlt_f g15;have hkk:k=all.length:=by omega
    rw [hkk,List.take_length] at hm;refine W.exit (thn_x (thn_x (blk_hit ?_)));refine thn_n (W.seq (W.region (L.val (x_as (v:=.slice _ _ _) rfl) rfl ?_)));refine L.nil (thn_n (W.seq (W.seq (W.region (L.val (x_mv (v:=.slice _ _ _) rfl) rfl ?_)))));refine L.val (x_len_slice Try.underlying22 rfl) rfl ?_;refine L.val (x_mv (v:=.int _ _) rfl) rfl ?_;refine L.nil (thn_n (W.block (W.loop (fun m' E w'=>∃ (i:Nat) (vO:Value),m'=l.length - i∧E 5=.map (some w.heap.size)∧E 8=vO∧E 21=.slice p l.length cap∧E 22=.int .i64 (l.length:Nat)∧E 23=.int .i64 (i:Nat)∧(i≤l.length)∧(Bel w w')∧(RecRow ArC 2 B w' p row l)∧(IM w' w.heap.size m)∧(Own w' (w.heap.size+1) 36 2 vO (countL all (l.take i)).length ((countL all (l.take i)).map arV).flatten)) (l.length) ?_ ?_)))
    ·exact ⟨0,.slice none 0 0,by omega,vi_,vi_,vi_,vi_,vi_,ao_,ao_,ao_,ao_,(by exact own_nil)⟩
    ·rintro _ E wL24 ⟨i,vO,em,e5,e8,e21,e22,e23,hi,hB,hr,mp,hO⟩;rw [upd_self e5,upd_self e8,upd_self e21,upd_self e22,upd_self e23];refine W.seq (W.region ?_);obtain ⟨aO,cO,eO,-⟩:=own_shape hO;subst eO;have hqO:=fun j hj=>Own.lt hO (j:=j) hj
     have hcl:=count_len all (l.take i);rw [List.length_take] at hcl;have hmpl:=mp.lt;have hsL:=hB.size;refine L.val (x_lss rfl rfl) rfl ?_;refine L.nil (thn_n (W.seq (W.cond (b:=_) rfl (fun g24=>?_) (fun g24=>?_))))
     ·have h24:=of_decide_eq_true g24;have hlt:i<l.length:=by omega
      obtain ⟨pb,po,rfl,-,-⟩:=hr.elem hlt;obtain ⟨ea,-,-⟩:=hr.each i hlt;have hct:=count_take (all:=all) hlt;refine W.skip (thn_n (W.seq (W.block (W.seq (W.region (L.val (x_ia (j:=i) Try.underlying22 kgrd_sz36 rfl rfl om_ om_) rfl ?_))))));refine L.val (x_ldn (vs:=arV (l.getD i default)) kgrd_ag36 rfl rfl (by have:=hr.elemAt hlt;rw [ea] at this;exact this)) rfl ?_;refine L.alloc (cs:=[S [],S []]) kgrd_zr36 rfl rfl (fun w10 bx10 hw hz10=>?_);have hB:=hB.carry hw;have hr:=hr.carry hw;have mp:=mp.carry hw;have hO:=hO.carry hw;have hz10b:=hz10;refine L.setRow kgrd_ag36 rfl rfl bx10 rfl rfl (by simp [Value.oneCell',S,arV]) (fun wl24 bx10 hw hzl24=>?_);have hsz:=hB.size;have hB:=hB.set hw om_;have hr:=hr.carryR hw (fun k e=>hV k (by have e:k=_:=e;omega));have mp:=MapAtK.carryR mp hw (fun e=>by have e:_=_:=e;omega);have hO:=Own.carryR hO hw (fun j hj e=>by have e:j=_:=e;have:=hqO j hj;omega);have bx10:Box wl24 _ 36 [S (l.getD i default).1,S (l.getD i default).2]:=bx10;refine L.nil (thn_n (W.seq (W.region (L.val (x_mv (v:=.map _) rfl) rfl ?_))));refine L.val (x_fa kgrd_fo36_0 rfl) rfl ?_;refine L.val (x_ld (v:=S _) kgrd_oc9 rfl (bx10.cell0 rfl)) rfl ?_;have hm1:=hm (l.getD i default).1;have hm2:=hm (l.getD i default).2;have h01:getI m (l.getD i default).1=0∨getI m (l.getD i default).1=1:=by rw [hm1];split <;> simp
      have h02:getI m (l.getD i default).2=0∨getI m (l.getD i default).2=1:=by rw [hm2];split <;> simp
      refine L.val (x_look0 (z:=.int .i64 0) Try.underlying49 (klawS Try.underlying9) kr_ rfl rfl trivial mp (getI_look m _)) rfl ?_;refine L.val (x_mv (v:=.map _) rfl) rfl ?_;refine L.val (x_fa kgrd_fo36_1 rfl) rfl ?_;refine L.val (x_ld (v:=S _) kgrd_oc9 rfl (bx10.cell0 rfl)) rfl ?_;refine L.val (x_look0 (z:=.int .i64 0) Try.underlying49 (klawS Try.underlying9) kr_ rfl rfl trivial mp (getI_look m _)) rfl ?_;refine L.val (x_add rfl rfl (wr64 om_)) rfl ?_;refine L.val (x_eql rfl rfl) rfl ?_;refine L.nil (thn_n (W.cond (b:=_) rfl (fun g36=>?_) (fun g36=>?_)))
      ·have h36:=of_decide_eq_true g36;have hc:(all.contains (l.getD i default).1 && all.contains (l.getD i default).2)=true:=by
         rw [Bool.and_eq_true];constructor
         · rcases Bool.eq_false_or_eq_true (all.contains (l.getD i default).1) with e | e
           · exact e
           · rw [e,if_neg (by simp)] at hm1;omega
         · rcases Bool.eq_false_or_eq_true (all.contains (l.getD i default).2) with e | e
           · exact e
           · rw [e,if_neg (by simp)] at hm2;omega
       rw [if_pos hc] at hct;refine W.region (L.val (x_mv (v:=.slice _ _ _) rfl) rfl ?_);refine L.val (x_ldn (vs:=_) kgrd_ag36 rfl rfl (bx10.row rfl)) rfl ?_;refine L.bs (sz:=2) (cells:=arV (l.getD i default)) Try.underlying22 kgrd_el36 rfl rfl rfl rfl (fun w39 bx39 hw hz39=>?_);have hB:=hB.carry hw;have hr:=hr.carry hw;have mp:=mp.carry hw;have hO:=hO.carry hw;have bx10:=bx10.carry hw;have hs40:=hB.size;refine L.append (m:=1) Try.underlying22 kgrd_el36 rfl rfl rfl hO rfl bx39.news (by simp [Value.oneCell',S,arV]) om_ om_ (fun v40 w40 hO40 hg hiff40 hob40=>?_);have hB:=hB.step hg (fun j hj e=>by have:=(hqO _ e).1;omega);have hr:=hr.carryR hg (fun k e=>hV k (by have:=(hqO k e).1;omega));have mp:=MapAtK.carryR mp hg (fun e=>by have:=(hqO _ e).1;omega);have hO2:Own w40 (w.heap.size+1) 36 2 v40 (countL all (l.take (i+1))).length ((countL all (l.take (i+1))).map arV).flatten:=by
         rw [hct,List.length_append,List.map_append,List.flatten_append];simpa using hO40
       obtain ⟨a40,c40,e40,-⟩:=own_shape hO40;subst e40;refine L.val (x_as (v:=.slice _ _ _) rfl) rfl ?_;refine L.nil (blk_n (thn_n (W.region (L.val (x_add rfl rfl (wr64 om_)) rfl ?_))));refine L.val (x_mv (v:=.int _ _) rfl) rfl ?_;refine L.nil (thn_n ⟨rfl,?_⟩);refine ⟨_,?_,i+1,_,rfl,vi_,vi_,vi_,vi_,vi_,ao_,ao_,ao_,ao_,(by exact hO2)⟩;omega
      ·have h36:=of_decide_eq_false g36;have hc:¬ (all.contains (l.getD i default).1 && all.contains (l.getD i default).2)=true:=fun e=>by
         rw [Bool.and_eq_true] at e;rw [if_pos e.1] at hm1;rw [if_pos e.2] at hm2;omega
       rw [if_neg hc,List.append_nil] at hct;have hO2:Own wl24 (w.heap.size+1) 36 2 (.slice aO (countL all (l.take i)).length cO) (countL all (l.take (i+1))).length ((countL all (l.take (i+1))).map arV).flatten:=by rw [hct];exact hO
       refine W.skip (blk_n (thn_n (W.region (L.val (x_add rfl rfl (wr64 om_)) rfl ?_))));refine L.val (x_mv (v:=.int _ _) rfl) rfl ?_;refine L.nil (thn_n ⟨rfl,?_⟩);refine ⟨_,?_,i+1,_,rfl,vi_,vi_,vi_,vi_,vi_,ao_,ao_,ao_,ao_,(by exact hO2)⟩;omega
     ·have h24:=dlt_f g24;refine W.exit (thn_x (thn_x (blk_hit ?_)));refine thn_n (W.seq (W.region (L.val (x_mv (v:=.slice _ _ _) rfl) rfl ?_)));refine L.val (x_as (v:=.slice _ _ _) rfl) rfl ?_;refine L.nil (thn_n (W.ret (fin_mk (.inr rfl) ?_)));have hii:i=l.length:=by omega
      rw [hii,List.take_length] at hO;have hcl2:=count_len all l;rw [hii,List.take_length];exact ⟨arcs_done hO (fun a ha=>hxl a (List.mem_filter.1 ha).1) om_ (fun j hj e=>by have e:j<_:=e;omega),hB⟩
end Go.Gx
