/- In a region that draws and stores: what is asked, or not, is taken first, too. Conditions: none. -/
import Derived.Test.YtigcdmnhmfeioaaGgDrawD
import Derived.Test.YtigcdmnhmfeioaaGgGrB
import Derived.Test.YtigcdmnhmfeioaaGgGrT
import Derived.Test.YtigcdmnhmfeioaaGgRec
namespace Go.Gx
variable {P:Program} {ops:Array Oper} {C0 C1:World→Prop}
section
variable {n st:Nat} {K:List Deferred→Env→World→Prop} {D:List Deferred} {E:Env} {w:World}
theorem LAD.takeY {fuel:Nat} {listed:Array Bool} {i d:Nat} {o:Oper} {v:Value}
    (ho:ops[i]? = some o) (hod:o.dst=some d) (hs:Region.noSelect ops=true) (hf:Region.free .any ops listed i=true) (hr:(Region.ready .any ops listed).contains i=true) (hne:Nat.beq st i=false)
    (hx:∀ a,Fr D n a E→YF P ops C0 o v a) (hd:Nat.blt d n=true) (k:LAD P n ops C0 C1 st K fuel (listed.setIfInBounds i true) D (upd E d v) w):LAD P n ops C0 C1 st K (fuel+1) listed D E w:=by
  intro a ha;refine wpAnyD.take0 ho (Region.noSelect_spec hs) ?_ (fun h=>by subst h;simp at hne) fuel listed a w (Region.free_spec ho hf) (by simpa using hr) (hx a ha) ?_
  · rintro c a w ⟨_,E,_,h,_⟩;cases h
  · rw [hod];exact k _ (ha.put v hd)
theorem LAD.takeG {fuel:Nat} {listed:Array Bool} {i d j dj:Nat} {op:Op} {t:TypeId} {p:String} {af:Array Edge} {v:Value} {want b:Bool}
    (ho:ops[i]? = some ⟨some d,op,t,p,af,some (j,want)⟩) (hs:Region.noSelect ops=true) (hf:Region.free .any ops listed i=true) (hr:(Region.ready .any ops listed).contains i=true) (hne:Nat.beq st i=false)
    (hj:(ops[j]?).bind (·.dst)=some dj) (hE:E dj=.bool b) (hb:b=want)
    (hx:∀ w,C0 w→X P op t E w v w) (hd:Nat.blt d n=true) (k:LAD P n ops C0 C1 st K fuel (listed.setIfInBounds i true) D (upd E d v) w):LAD P n ops C0 C1 st K (fuel+1) listed D E w:=
  LAD.takeY ho rfl hs hf hr hne (fun a ha=>.inl ⟨wanted_yes rfl hj ha (hb ▸ hE),fun w hw=>by
    have:=hx w hw;unfold X at this;rw [execOp_bare,ha.eval];exact this⟩) hd k
theorem LAD.takeU {fuel:Nat} {listed:Array Bool} {i d j dj:Nat} {op:Op} {t:TypeId} {p:String} {af:Array Edge} {want b:Bool}
    (ho:ops[i]? = some ⟨some d,op,t,p,af,some (j,want)⟩) (hs:Region.noSelect ops=true) (hf:Region.free .any ops listed i=true) (hr:(Region.ready .any ops listed).contains i=true) (hne:Nat.beq st i=false)
    (hj:(ops[j]?).bind (·.dst)=some dj) (hE:E dj=.bool b) (hb:b=!want)
    (hd:Nat.blt d n=true) (k:LAD P n ops C0 C1 st K fuel (listed.setIfInBounds i true) D (upd E d undef) w):LAD P n ops C0 C1 st K (fuel+1) listed D E w:=
  LAD.takeY ho rfl hs hf hr hne (fun _ ha=>.inr ⟨wanted_no rfl hj ha hE hb,rfl⟩) hd k
theorem LAD.split {fuel:Nat} {listed:Array Bool} {dj:Nat} {b:Bool} (_hE:E dj=.bool b) (ht:b=true→LAD P n ops C0 C1 st K fuel listed D E w) (hf:b=false→LAD P n ops C0 C1 st K fuel listed D E w):LAD P n ops C0 C1 st K fuel listed D E w:=by
  cases b
  · exact hf rfl
  · exact ht rfl
end
end Go.Gx
namespace Go.Gx
open Go.Proofs Go.Sort
theorem kgrc_en30:Go.Proofs.Enters Try.prog 30:=Go.Proofs.enters_of Try.func30 kr_ rfl
theorem kgrc_oc9:oneCellT Try.prog 9=true:=by kernel_rfl
theorem kgrc_sz9:(Try.prog.info? 9).map (·.size)=some 1:=by kernel_rfl
def arV (x:Arc):List Value:=[S x.1,S x.2]
def ArC (_A:Nat→Prop) (_w:World) (cs:List Value) (x:Arc):Prop:=cs=arV x∧x.1.length≤9223372036854775807∧x.2.length≤9223372036854775807
instance car_ar:Car ArC 2 where
  pos:=by omega
  len:=fun h=>by rw [h.1];rfl
  one:=fun h=>by
    rw [h.1]
    intro v hv
    simp only [arV,List.mem_cons,List.not_mem_nil,or_false] at hv
    rcases hv with rfl | rfl <;> rfl
  move:=fun _ h=>h
abbrev ArcsAt (A:Nat→Prop) (w:World) (v:Value) (l:List Arc):Prop:=RecsAt ArC 2 A w v l
abbrev IM (w:World) (b:Nat) (m:List (Str × Int)):Prop:=MapAtK S (fun _=>True) w b (encI m)
theorem once36 (A0:Nat→Prop) (v:Value) (l:List Str) (w:World) (h0:StrsAt A0 w v l) (hl:l.length≤400000):
    Ret Try.prog 28 #[v] w fun r w'=>StrsAt (fun k=>k<w.heap.size) w' r (onceL l)∧Bel w w':=by
  obtain ⟨A,h,hU⟩:∃ A:Nat→Prop,StrsAt A w v l∧(∀ k,w.heap.size≤k→A k):=⟨_,h0.up,fun _=>.inr⟩;obtain ⟨p,cap,rfl,h1,h2,h3,h4,-⟩:=id h;refine ret_of_W Try.func28 rfl (Nat.le_of_ble_eq_true rfl) (res1 rfl) ?_;have hB:=Gr.refl (fun _=>False) w;refine W.seq (W.region (L.val (x_as (v:=.slice _ _ _) rfl) rfl ?_));refine L.nil (thn_n (W.seq (W.region (L.val (x_as (v:=.slice _ _ _) rfl) rfl ?_))));refine L.nil (thn_n (W.seq (W.seq (W.region (L.val (x_as (v:=.int _ _) rfl) rfl ?_)))));refine L.nil (thn_n (W.block (W.loop (fun m' E w'=>∃ (k:Nat) (vo:Value),m'=l.length - k∧E 0=.slice p l.length cap∧E 3=vo∧E 4=.int .i64 (k:Nat)∧(k≤l.length)∧(Bel w w')∧(StrsAt A w' (.slice p l.length cap) l)∧(StrsAt (fun j=>j<w.heap.size) w' vo (onceL (l.take k)))) (l.length) ?_ ?_)))
  ·exact ⟨0,.slice none 0 0,by omega,vi_,vi_,vi_,ao_,ao_,ao_,(by exact StrsAt.nil _ _ _ _ om_)⟩
  ·rintro _ E wL5 ⟨k,vo,em,e0,e3,e4,hk,hB,h,ho⟩;rw [upd_self e0,upd_self e3,upd_self e4];refine W.seq (W.seq (W.region ?_));have hsL:=hB.size;obtain ⟨po,co,eo,-⟩:=id ho;subst eo;refine L.val (x_mv (v:=.int _ _) rfl) rfl ?_;refine L.val (x_mv (v:=.slice _ _ _) rfl) rfl ?_;refine L.val (x_len_slice Try.underlying23 rfl) rfl ?_;refine L.val (x_lss rfl rfl) rfl ?_;refine L.nil (thn_n (W.cond (b:=_) rfl (fun g8=>?_) (fun g8=>?_)))
   ·have h8:=of_decide_eq_true g8;have hlt:k<l.length:=by omega
    obtain ⟨b,o,rfl,hcl⟩:=h.elem hlt;have hx:=h4 (l.getD k []) (by rw [List.getD_eq_getElem?_getD,List.getElem?_eq_getElem hlt];exact List.getElem_mem _);have hlo:(onceL (l.take k)).length≤400000:=by
      have:=strict_len_le (strict_once (l.take k)).nodup (m:=l.take k) fun x hx=>mem_once.1 hx
      rw [List.length_take] at this;omega
    refine W.skip (thn_n (W.seq (W.block (W.region (L.val (x_mv (v:=.slice _ _ _) rfl) rfl ?_)))));refine L.val (x_mv (v:=.slice _ _ _) rfl) rfl ?_;refine L.val (x_mv (v:=.int _ _) rfl) rfl ?_;refine L.val (x_ia1 (j:=k) Try.underlying23 kgrc_sz9 rfl rfl om_ om_) rfl ?_;refine L.val (x_ld (v:=S _) kgrc_oc9 rfl hcl) rfl ?_;refine L.ret (x_call kgrc_en30 rfl) rfl (add36 _ _ _ _ _ ho hx hlo) ?_;rintro v16 w16 ⟨ha,hw⟩;have hB:=hB.carry hw;have h:=h.carry hw;have ho:=ho.carry hw;have hs16:=hB.size;have ho2:=ha.mono (A':=fun j=>j<w.heap.size) (fun j _ h=>⟨h,by have h:j<w.heap.size:=h;omega⟩);obtain ⟨p16,c16,e16,-⟩:=id ho2;subst e16;refine L.val (x_as (v:=.slice _ _ _) rfl) rfl ?_;refine L.nil (blk_n (thn_n (W.region (L.val (x_mv (v:=.int _ _) rfl) rfl ?_))));refine L.val (x_add rfl rfl (wr64 om_)) rfl ?_;refine L.val (x_as (v:=.int _ _) rfl) rfl ?_;refine L.nil (thn_n ⟨rfl,?_⟩);refine ⟨_,?_,k+1,_,rfl,vi_,vi_,vi_,ao_,ao_,ao_,(by rw [onceL_take hlt];exact ho2)⟩;omega
   ·have h8:=dlt_f g8;refine W.exit (thn_x (thn_x (blk_hit ?_)));refine thn_n (W.seq (W.region (L.val (x_mv (v:=.slice _ _ _) rfl) rfl ?_)));refine L.val (x_as (v:=.slice _ _ _) rfl) rfl ?_;refine L.nil (thn_n (W.ret (fin_mk (.inr rfl) ?_)));have hkl:k=l.length:=by omega
    rw [hkl,List.take_length] at ho;rw [hkl,List.take_length];exact ⟨ho,hB⟩
end Go.Gx
namespace Go.Gx
open Go.ChangeShapes Go.WideShapes Go.Deep Go.RowKit
section
variable {H:Type} {enc:TypeId × Value→H} {P:Program} {w:World} {base:Nat} {spare:Nat→Bool} {held:Bool}
structure ArT (P:Program) (tB:TypeId) (g0 g1:Field):Prop where
  hB:P.underlying tB=some (.struct #[g0,g1])
  h0:P.underlying g0.type=some .string
  h1:P.underlying g1.type=some .string
  o:g0.offset=0∧g1.offset=1
  c:P.cellsOf g0.type=1∧P.cellsOf g1.type=1∧P.cellsOf tB=2
theorem ar_open {tB:TypeId} {g0 g1:Field} (G:ArT P tB g0 g1) (fuel:Nat) (cs:List Value) (x:DataW H × List MemPlace) (h:DataW.trod enc P w base spare held fuel tB cs=some x):∃ e,ArC (fun _=>False) w cs e:=by
  obtain ⟨xs,n,rfl,rfl,hlen,hxl,hf⟩:=DataW.trod_struct G.hB h;obtain ⟨o0,o1⟩:=G.o;obtain ⟨c0,c1,c3⟩:=G.c;rw [c3] at hlen
  match cs,hlen with
  | [v0,v1],_=>
    match xs,hxl with
    | [x0,x1],_=>
      have g0':=hf 0 g0 rfl;have g1':=hf 1 g1 rfl;rw [o0,c0] at g0';rw [o1,c1] at g1';obtain ⟨s0,e0,-,l0⟩:=DataW.trod_string G.h0 (x:=x0) g0';obtain ⟨s1,e1,-,l1⟩:=DataW.trod_string G.h1 (x:=x1) g1';simp at e0 e1;refine ⟨(s0.data.toList,s1.data.toList),?_,max_le l0,max_le l1⟩;rw [e0,e1];simp [arV,S]
theorem ars_arg {tE tB:TypeId} {g0 g1:Field} (hE:P.underlying tE=some (.slice tB)) (hb:2≤P.bytesOf tB) (G:ArT P tB g0 g1) {W:World} {base:Nat} {v:Value} {d:DataW H} {p:List MemPlace}
    (hv:Value.okWide P W .any base tE v) (h:DataW.Trod enc P W 0 (fun _=>true) true tE v d p) (hw:(d.weights P tE).all (· ≤ reachBytes)=true):∃ l,ArcsAt (fun _=>False) W v l:=
  recs_arg hE G.c.2.2 om_ hb (fun fuel cs x h _=>ar_open G fuel cs x h) hv h hw
theorem str_argU {tT:TypeId} (ht:P.underlying tT=some .string) {W:World} {base:Nat} {v:Value} {d:DataW H} {p:List MemPlace}
    (hv:Value.okWide P W .any base tT v) (h:DataW.Trod enc P W 0 (fun _=>true) true tT v d p):∃ s:Str,v=S s∧s.length≤9223372036854775807:=by
  obtain ⟨fuel,h⟩:=h;have hcells:v.cells.toList=[v]:=by
    unfold Value.okWide at hv;rw [ht] at hv;cases v <;> simp_all [Value.cells,Cell.okWide,Cell.ok]
  rw [hcells] at h;obtain ⟨s0,e0,-,l0⟩:=DataW.trod_string ht h;simp at e0;exact ⟨s0.data.toList,by rw [e0];simp [S],max_le l0⟩
theorem strsl_argU {tE e:TypeId} (ht:P.underlying tE=some (.slice e)) (he:P.underlying e=some .string) (hc:P.cellsOf e=1) (hb:2≤P.bytesOf e) {W:World} {base:Nat} {v:Value} {d:DataW H} {p:List MemPlace}
    (hv:Value.okWide P W .any base tE v) (h:DataW.Trod enc P W 0 (fun _=>true) true tE v d p) (hw:(d.weights P tE).all (· ≤ reachBytes)=true):∃ l,StrsAt (fun _=>False) W v l:=by
  obtain ⟨fuel,h⟩:=h;have hcells:v.cells.toList=[v]:=by
    unfold Value.okWide at hv;rw [ht] at hv;cases v <;> simp_all [Value.cells,Cell.okWide,Cell.ok]
  rw [hcells] at h;exact strs_open ht he hc hb h hw
end
end Go.Gx
namespace Go.Gx
open Go.Proofs Go.Sort
theorem kgrd_ag36:aggT Try.prog 36 2=true:=by kernel_rfl
theorem kgrd_el36:elT Try.prog 36 2=true:=by kernel_rfl
theorem kgrd_fo36_0:fieldOff Try.prog 36 0=some 0:=by kernel_rfl
theorem kgrd_fo36_1:fieldOff Try.prog 36 1=some 1:=by kernel_rfl
theorem kgrd_oc9:oneCellT Try.prog 9=true:=by kernel_rfl
theorem kgrd_sz36:(Try.prog.info? 36).map (·.size)=some 2:=by kernel_rfl
theorem kgrd_sz9:(Try.prog.info? 9).map (·.size)=some 1:=by kernel_rfl
theorem kgrd_zr36:(Try.prog.info? 36).bind (·.zero)=some (Value.agg [S [],S []].toArray):=by kernel_rfl
theorem rowsAr {A:Nat→Prop} {w:World} {l:List Arc} (hx:∀ a∈l,a.1.length≤9223372036854775807∧a.2.length≤9223372036854775807):RowsC ArC A w (l.map arV) l:=
  ⟨by simp,fun i hi=>by
    have hm:l.getD i default∈l:=by rw [List.getD_eq_getElem?_getD,List.getElem?_eq_getElem hi];exact List.getElem_mem _
    refine ⟨?_,(hx _ hm).1,(hx _ hm).2⟩;simp [List.getD_eq_getElem?_getD,List.getElem?_eq_getElem hi]⟩
theorem arcs_done {A:Nat→Prop} {w:World} {base:Nat} {e:TypeId} {v:Value} {l:List Arc} (h:Own w base e 2 v l.length (l.map arV).flatten) (hx:∀ a∈l,a.1.length≤9223372036854775807∧a.2.length≤9223372036854775807) (hl:l.length≤70368744177664) (hb:∀ j,base≤j→¬ A j):ArcsAt A w v l:=
  RowsC.done (rowsAr (A:=A) hx) h hl (fun _ h=>h) hb
theorem arcs_len {A:Nat→Prop} {w:World} {p:Option Addr} {row:Nat→List Value} {l:List Arc} (h:RecRow ArC 2 A w p row l):∀ a∈l,a.1.length≤9223372036854775807∧a.2.length≤9223372036854775807:=fun a ha=>by
  obtain ⟨i,hi,rfl⟩:=List.getElem_of_mem ha;have:=h.each i hi;rw [List.getD_eq_getElem?_getD,List.getElem?_eq_getElem hi] at this;exact ⟨this.2.1,this.2.2⟩
theorem count_take {all:List Str} {l:List Arc} {i:Nat} (h:i<l.length):countL all (l.take (i+1))=countL all (l.take i)++if (all.contains (l.getD i default).1 && all.contains (l.getD i default).2)=true then [l.getD i default] else []:=by
  unfold countL;rw [take_snoc (d:=default) h,List.filter_append];congr 1;rw [List.filter_cons];rfl
theorem count_len (all:List Str) (l:List Arc):(countL all l).length≤l.length:=List.length_filter_le _ _
theorem among36 (A0 A1:Nat→Prop) (v u:Value) (all:List Str) (l:List Arc) (w:World) (h0:StrsAt A0 w v all) (h1:ArcsAt A1 w u l) (hll:l.length≤400000):
    Ret Try.prog 35 #[v,u] w fun r w'=>ArcsAt (fun k=>k<w.heap.size) w' r (countL all l)∧Bel w w':=by
  obtain ⟨A,h,hU⟩:∃ A:Nat→Prop,StrsAt A w v all∧(∀ k,w.heap.size≤k→A k):=⟨_,h0.up,fun _=>.inr⟩;obtain ⟨B,hb,hV⟩:∃ A:Nat→Prop,ArcsAt A w u l∧(∀ k,w.heap.size≤k→A k):=⟨_,RecsAt.up h1,fun _=>.inr⟩;obtain ⟨q,cq,rfl,h1,h2,h3,-⟩:=id h;obtain ⟨p,cap,row,rfl,a1,a2,a3,hr⟩:=hb;have hxl:=arcs_len hr;refine ret_of_W Try.func35 rfl (Nat.le_of_ble_eq_true rfl) (res1 rfl) ?_;have hB:=Gr.refl (fun _=>False) w;refine W.seq (W.region (L.val (x_as (v:=.slice _ _ _) rfl) rfl ?_));refine L.nil (thn_n (W.seq (W.region (L.mkmapK (κ := Str) (K:=S) (V:=fun _=>True) Try.underlying49 rfl (fun w11 mp hw hz11=>?_)))));have hB:=hB.carry hw;have h:=h.carry hw;have hr:=hr.carry hw;have mp:IM w11 w.heap.size []:=mp;refine L.val (x_as (v:=.map _) rfl) rfl ?_;refine L.nil (thn_n (W.seq (W.seq (W.region (L.val (x_mv (v:=.slice _ _ _) rfl) rfl ?_)))));refine L.val (x_len_slice Try.underlying23 rfl) rfl ?_;refine L.val (x_mv (v:=.int _ _) rfl) rfl ?_;refine L.nil (thn_n (W.block (W.loop (fun m' E w'=>∃ (k:Nat) (m:List (Str × Int)),m'=all.length - k∧E 1=.slice p l.length cap∧E 5=.map (some w.heap.size)∧E 12=.slice q all.length cq∧E 13=.int .i64 (all.length:Nat)∧E 14=.int .i64 (k:Nat)∧(k≤all.length)∧(Bel w w')∧(StrsAt A w' (.slice q all.length cq) all)∧(RecRow ArC 2 B w' p row l)∧(IM w' w.heap.size m)∧(∀ n,getI m n=if (all.take k).contains n then 1 else 0)) (all.length) ?_ ?_)))
  ·exact ⟨0,[],by omega,vi_,vi_,vi_,vi_,vi_,ao_,ao_,ao_,ao_,ao_,(by intro n;rfl)⟩
  ·rintro _ E wL15 ⟨k,m,em,e1,e5,e12,e13,e14,hk,hB,h,hr,mp,hm⟩;rw [upd_self e1,upd_self e5,upd_self e12,upd_self e13,upd_self e14];refine W.seq (W.region (L.val (x_lss rfl rfl) rfl ?_));refine L.nil (thn_n (W.seq (W.cond (b:=_) rfl (fun g15=>?_) (fun g15=>?_))))
   ·have h15:=of_decide_eq_true g15;have hlt:k<all.length:=by omega
    obtain ⟨b,o,rfl,hcl⟩:=h.elem hlt;refine W.skip (thn_n (W.seq (W.block (W.seq (W.region (L.val (x_ia1 (j:=k) Try.underlying23 kgrd_sz9 rfl rfl om_ om_) rfl ?_))))));refine L.val (x_ld (v:=S _) kgrd_oc9 rfl hcl) rfl ?_;refine L.val (x_as (v:=S _) rfl) rfl ?_;refine L.nil (thn_n (W.region (L.val (x_mv (v:=.map _) rfl) rfl ?_)));refine L.val (x_mv (v:=S _) rfl) rfl ?_;refine L.mapsetK (v:=.int .i64 1) Try.underlying49 (klawS Try.underlying9) rfl rfl trivial rfl mp (fun wl13 mp hw hzl13=>?_);rw [encI_put] at mp;have hB:=hB.set hw (Nat.le_refl _);have h:=h.carryR hw (fun k e=>hU k (by have e:k=_:=e;omega));have hr:=hr.carryR hw (fun k e=>hV k (by have e:k=_:=e;omega));have hm2:∀ n,getI (putI m (all.getD k []) 1) n=if (all.take (k+1)).contains n then 1 else 0:=fun n=>by
      rw [getI_put,contains_take hlt,hm];by_cases e:n=all.getD k []
      · rw [if_pos e,e];simp
      · rw [if_neg e];have:(all.getD k [] == n)=false:=by rw [beq_eq_false_iff_ne];exact fun h=>e h.symm
        rw [this,Bool.or_false]
    refine L.nil (blk_n (thn_n (W.region (L.val (x_add rfl rfl (wr64 om_)) rfl ?_))));refine L.val (x_mv (v:=.int _ _) rfl) rfl ?_;refine L.nil (thn_n ⟨rfl,?_⟩);refine ⟨_,?_,k+1,_,rfl,vi_,vi_,vi_,vi_,vi_,ao_,ao_,ao_,ao_,ao_,(by exact hm2)⟩;omega
   ·have h15:=dlt_f g15;have hkk:k=all.length:=by omega
    rw [hkk,List.take_length] at hm;refine W.exit (thn_x (thn_x (blk_hit ?_)));refine thn_n (W.seq (W.region (L.val (x_as (v:=.slice _ _ _) rfl) rfl ?_)));refine L.nil (thn_n (W.seq (W.seq (W.region (L.val (x_mv (v:=.slice _ _ _) rfl) rfl ?_)))));refine L.val (x_len_slice Try.underlying22 rfl) rfl ?_;refine L.val (x_mv (v:=.int _ _) rfl) rfl ?_;refine L.nil (thn_n (W.block (W.loop (fun m' E w'=>∃ (i:Nat) (vO:Value),m'=l.length - i∧E 5=.map (some w.heap.size)∧E 8=vO∧E 21=.slice p l.length cap∧E 22=.int .i64 (l.length:Nat)∧E 23=.int .i64 (i:Nat)∧(i≤l.length)∧(Bel w w')∧(RecRow ArC 2 B w' p row l)∧(IM w' w.heap.size m)∧(Own w' (w.heap.size+1) 36 2 vO (countL all (l.take i)).length ((countL all (l.take i)).map arV).flatten)) (l.length) ?_ ?_)))
    ·exact ⟨0,.slice none 0 0,by omega,vi_,vi_,vi_,vi_,vi_,ao_,ao_,ao_,ao_,(by exact own_nil)⟩
    ·rintro _ E wL24 ⟨i,vO,em,e5,e8,e21,e22,e23,hi,hB,hr,mp,hO⟩;rw [upd_self e5,upd_self e8,upd_self e21,upd_self e22,upd_self e23];refine W.seq (W.region ?_);obtain ⟨aO,cO,eO,-⟩:=own_shape hO;subst eO;have hqO:=fun j hj=>Own.lt hO (j:=j) hj
     have hcl:=count_len all (l.take i);rw [List.length_take] at hcl;have hmpl:=mp.lt;have hsL:=hB.size;refine L.val (x_lss rfl rfl) rfl ?_;refine L.nil (thn_n (W.seq (W.cond (b:=_) rfl (fun g24=>?_) (fun g24=>?_))))
     ·have h24:=of_decide_eq_true g24;have hlt:i<l.length:=by omega
      obtain ⟨pb,po,rfl,-,-⟩:=hr.elem hlt;obtain ⟨ea,-,-⟩:=hr.each i hlt;have hct:=count_take (all:=all) hlt;refine W.skip (thn_n (W.seq (W.block (W.seq (W.region (L.val (x_ia (j:=i) Try.underlying22 kgrd_sz36 rfl rfl om_ om_) rfl ?_))))));refine L.val (x_ldn (vs:=arV (l.getD i default)) kgrd_ag36 rfl rfl (by have:=hr.elemAt hlt;rw [ea] at this;exact this)) rfl ?_;refine L.alloc (cs:=[S [],S []]) kgrd_zr36 rfl rfl (fun w10 bx10 hw hz10=>?_);have hB:=hB.carry hw;have hr:=hr.carry hw;have mp:=mp.carry hw;have hO:=hO.carry hw;have hz10b:=hz10;refine L.setRow kgrd_ag36 rfl rfl bx10 rfl rfl (by simp [Value.oneCell',S,arV]) (fun wl24 bx10 hw hzl24=>?_);have hsz:=hB.size;have hB:=hB.set hw om_;have hr:=hr.carryR hw (fun k e=>hV k (by have e:k=_:=e;omega));have mp:=MapAtK.carryR mp hw (fun e=>by have e:_=_:=e;omega);have hO:=Own.carryR hO hw (fun j hj e=>by have e:j=_:=e;have:=hqO j hj;omega);have bx10:Box wl24 _ 36 [S (l.getD i default).1,S (l.getD i default).2]:=bx10;refine L.nil (thn_n (W.seq (W.region (L.val (x_mv (v:=.map _) rfl) rfl ?_))));refine L.val (x_fa kgrd_fo36_0 rfl) rfl ?_;refine L.val (x_ld (v:=S _) kgrd_oc9 rfl (bx10.cell0 rfl)) rfl ?_;have hm1:=hm (l.getD i default).1;have hm2:=hm (l.getD i default).2;have h01:getI m (l.getD i default).1=0∨getI m (l.getD i default).1=1:=by rw [hm1];split <;> simp
      have h02:getI m (l.getD i default).2=0∨getI m (l.getD i default).2=1:=by rw [hm2];split <;> simp
      refine L.val (x_look0 (z:=.int .i64 0) Try.underlying49 (klawS Try.underlying9) kr_ rfl rfl trivial mp (getI_look m _)) rfl ?_;refine L.val (x_mv (v:=.map _) rfl) rfl ?_;refine L.val (x_fa kgrd_fo36_1 rfl) rfl ?_;refine L.val (x_ld (v:=S _) kgrd_oc9 rfl (bx10.cell0 rfl)) rfl ?_;refine L.val (x_look0 (z:=.int .i64 0) Try.underlying49 (klawS Try.underlying9) kr_ rfl rfl trivial mp (getI_look m _)) rfl ?_;refine L.val (x_add rfl rfl (wr64 om_)) rfl ?_;refine L.val (x_eql rfl rfl) rfl ?_;refine L.nil (thn_n (W.cond (b:=_) rfl (fun g36=>?_) (fun g36=>?_)))
      ·have h36:=of_decide_eq_true g36;have hc:(all.contains (l.getD i default).1 && all.contains (l.getD i default).2)=true:=by
         rw [Bool.and_eq_true];constructor
         · rcases Bool.eq_false_or_eq_true (all.contains (l.getD i default).1) with e | e
           · exact e
           · rw [e,if_neg (by simp)] at hm1;omega
         · rcases Bool.eq_false_or_eq_true (all.contains (l.getD i default).2) with e | e
           · exact e
           · rw [e,if_neg (by simp)] at hm2;omega
       rw [if_pos hc] at hct;refine W.region (L.val (x_mv (v:=.slice _ _ _) rfl) rfl ?_);refine L.val (x_ldn (vs:=_) kgrd_ag36 rfl rfl (bx10.row rfl)) rfl ?_;refine L.bs (sz:=2) (cells:=arV (l.getD i default)) Try.underlying22 kgrd_el36 rfl rfl rfl rfl (fun w39 bx39 hw hz39=>?_);have hB:=hB.carry hw;have hr:=hr.carry hw;have mp:=mp.carry hw;have hO:=hO.carry hw;have bx10:=bx10.carry hw;have hs40:=hB.size;refine L.append (m:=1) Try.underlying22 kgrd_el36 rfl rfl rfl hO rfl bx39.news (by simp [Value.oneCell',S,arV]) om_ om_ (fun v40 w40 hO40 hg hiff40 hob40=>?_);have hB:=hB.step hg (fun j hj e=>by have:=(hqO _ e).1;omega);have hr:=hr.carryR hg (fun k e=>hV k (by have:=(hqO k e).1;omega));have mp:=MapAtK.carryR mp hg (fun e=>by have:=(hqO _ e).1;omega);have hO2:Own w40 (w.heap.size+1) 36 2 v40 (countL all (l.take (i+1))).length ((countL all (l.take (i+1))).map arV).flatten:=by
         rw [hct,List.length_append,List.map_append,List.flatten_append];simpa using hO40
       obtain ⟨a40,c40,e40,-⟩:=own_shape hO40;subst e40;refine L.val (x_as (v:=.slice _ _ _) rfl) rfl ?_;refine L.nil (blk_n (thn_n (W.region (L.val (x_add rfl rfl (wr64 om_)) rfl ?_))));refine L.val (x_mv (v:=.int _ _) rfl) rfl ?_;refine L.nil (thn_n ⟨rfl,?_⟩);refine ⟨_,?_,i+1,_,rfl,vi_,vi_,vi_,vi_,vi_,ao_,ao_,ao_,ao_,(by exact hO2)⟩;omega
      ·have h36:=of_decide_eq_false g36;have hc:¬ (all.contains (l.getD i default).1 && all.contains (l.getD i default).2)=true:=fun e=>by
         rw [Bool.and_eq_true] at e;rw [if_pos e.1] at hm1;rw [if_pos e.2] at hm2;omega
       rw [if_neg hc,List.append_nil] at hct;have hO2:Own wl24 (w.heap.size+1) 36 2 (.slice aO (countL all (l.take i)).length cO) (countL all (l.take (i+1))).length ((countL all (l.take (i+1))).map arV).flatten:=by rw [hct];exact hO
       refine W.skip (blk_n (thn_n (W.region (L.val (x_add rfl rfl (wr64 om_)) rfl ?_))));refine L.val (x_mv (v:=.int _ _) rfl) rfl ?_;refine L.nil (thn_n ⟨rfl,?_⟩);refine ⟨_,?_,i+1,_,rfl,vi_,vi_,vi_,vi_,vi_,ao_,ao_,ao_,ao_,(by exact hO2)⟩;omega
     ·have h24:=dlt_f g24;refine W.exit (thn_x (thn_x (blk_hit ?_)));refine thn_n (W.seq (W.region (L.val (x_mv (v:=.slice _ _ _) rfl) rfl ?_)));refine L.val (x_as (v:=.slice _ _ _) rfl) rfl ?_;refine L.nil (thn_n (W.ret (fin_mk (.inr rfl) ?_)));have hii:i=l.length:=by omega
      rw [hii,List.take_length] at hO;have hcl2:=count_len all l;rw [hii,List.take_length];exact ⟨arcs_done hO (fun a ha=>hxl a (List.mem_filter.1 ha).1) om_ (fun j hj e=>by have e:j<_:=e;omega),hB⟩
end Go.Gx
namespace Go.Gx
open Go.Proofs Go.Sort
theorem kgre_ag36:aggT Try.prog 36 2=true:=by kernel_rfl
theorem kgre_el9:elT Try.prog 9 1=true:=by kernel_rfl
theorem kgre_en26:Go.Proofs.Enters Try.prog 26:=Go.Proofs.enters_of Try.func26 kr_ rfl
theorem kgre_en45:Go.Proofs.Enters Try.prog 45:=Go.Proofs.enters_of Try.func45 kr_ rfl
theorem kgre_en46:Go.Proofs.Enters Try.prog 46:=Go.Proofs.enters_of Try.func46 kr_ rfl
theorem kgre_en47:Go.Proofs.Enters Try.prog 47:=Go.Proofs.enters_of Try.func47 kr_ rfl
theorem kgre_en48:Go.Proofs.Enters Try.prog 48:=Go.Proofs.enters_of Try.func48 kr_ rfl
theorem kgre_en56:Go.Proofs.Enters Try.prog 56:=Go.Proofs.enters_of Try.func56 kr_ rfl
theorem kgre_en57:Go.Proofs.Enters Try.prog 57:=Go.Proofs.enters_of Try.func57 kr_ rfl
theorem kgre_fo36_0:fieldOff Try.prog 36 0=some 0:=by kernel_rfl
theorem kgre_fo36_1:fieldOff Try.prog 36 1=some 1:=by kernel_rfl
theorem kgre_mixed:Try.prog.follows .mixedOrders=true:=by kernel_rfl
theorem kgre_oc9:oneCellT Try.prog 9=true:=by kernel_rfl
theorem kgre_sz36:(Try.prog.info? 36).map (·.size)=some 2:=by kernel_rfl
theorem kgre_sz9:(Try.prog.info? 9).map (·.size)=some 1:=by kernel_rfl
theorem kgre_zr36:(Try.prog.info? 36).bind (·.zero)=some (Value.agg [S [],S []].toArray):=by kernel_rfl
def NextMap (A:Nat→Prop) (w:World) (b:Nat) (f:Str→List Str):Prop:=
  ∃ l:List (Str × Value),MapAtK S (fun _=>True) w b l∧∀ n,StrsAt A w ((getK l n).getD (.slice none 0 0)) (f n)
theorem NextMap.carryR {A R:Nat→Prop} {w w':World} {b:Nat} {f:Str→List Str} (h:NextMap A w b f) (g:Gr R w w') (hb:¬ R b) (hR:∀ k,R k→A k):NextMap A w' b f:=by
  obtain ⟨l,h1,h2⟩:=h;exact ⟨l,h1.carryR g hb,fun n=>(h2 n).carryR g hR⟩
theorem NextMap.carry {A:Nat→Prop} {w w':World} {b:Nat} {f:Str→List Str} (h:NextMap A w b f) (g:Bel w w'):NextMap A w' b f:=h.carryR g (fun f=>f) (fun _ f=>f.elim)
theorem NextMap.mono {A A':Nat→Prop} {w:World} {b:Nat} {f:Str→List Str} (h:NextMap A w b f) (hA:∀ k,k<w.heap.size→A' k→A k):NextMap A' w b f:=by
  obtain ⟨l,h1,h2⟩:=h;exact ⟨l,h1,fun n=>(h2 n).mono hA⟩
theorem NextMap.lt {A:Nat→Prop} {w:World} {b:Nat} {f:Str→List Str} (h:NextMap A w b f):b<w.heap.size:=by
  obtain ⟨l,h1,h2⟩:=h;exact h1.lt
structure GrowM (base:Nat) (w:World) (b:Nat) (l:List (Str × Value)) (f:Str→List Str):Prop where
  map:MapAtK S (fun _=>True) w b l
  own:∀ n,Own w base 9 1 ((getK l n).getD (.slice none 0 0)) (f n).length ((f n).map S)
  apart:∀ n m j,n≠m→some j=((getK l n).getD (.slice none 0 0)).ownBlock→¬ some j=((getK l m).getD (.slice none 0 0)).ownBlock
theorem GrowM.carryR {base:Nat} {R:Nat→Prop} {w w':World} {b:Nat} {l:List (Str × Value)} {f:Str→List Str} (h:GrowM base w b l f) (g:Gr R w w') (hb:¬ R b) (hR:∀ n j,some j=((getK l n).getD (.slice none 0 0)).ownBlock→¬ R j):GrowM base w' b l f:=
  ⟨h.map.carryR g hb,fun n=>Own.carryR (h.own n) g (hR n),h.apart⟩
theorem GrowM.carry {base:Nat} {w w':World} {b:Nat} {l:List (Str × Value)} {f:Str→List Str} (h:GrowM base w b l f) (g:Bel w w'):GrowM base w' b l f:=h.carryR g (fun f=>f) (fun _ _ _ f=>f)
theorem GrowM.lt {base:Nat} {w:World} {b:Nat} {l:List (Str × Value)} {f:Str→List Str} (h:GrowM base w b l f) {n:Str} {j:Nat} (hj:some j=((getK l n).getD (.slice none 0 0)).ownBlock):base≤j∧j<w.heap.size:=Own.lt (h.own n) hj
theorem GrowM.step {base b:Nat} {w w':World} {l:List (Str × Value)} {f f':Str→List Str} {n:Str} {v0 v':Value} (h:GrowM base w b l f) (hv:(getK l n).getD (.slice none 0 0)=v0) (g:Gr (fun k=>k=b∨some k=v0.ownBlock) w w') (hbb:b<base)
    (mp:MapAtK S (fun _=>True) w' b (putK l n v')) (ho:Own w' base 9 1 v' (f' n).length ((f' n).map S)) (hf:∀ m,m≠n→f' m=f m) (hob:v'.ownBlock=v0.ownBlock∨∃ k,v'.ownBlock=some k∧w.heap.size≤k):GrowM base w' b (putK l n v') f':=by
  refine ⟨mp,fun m=>?_,fun m k j hne hj=>?_⟩
  · rw [getK_put];by_cases e:m=n
    · subst e;rw [if_pos rfl];exact ho
    · rw [if_neg e,hf m e];exact Own.carryR (h.own m) g (fun j hj hr=>by
        have:=h.lt hj;rcases hr with hr | hr
        · omega
        · rw [← hv] at hr;exact h.apart m n j e hj hr)
  · rw [getK_put] at hj ⊢;by_cases e1:m=n
    · subst e1;rw [if_pos rfl] at hj;rw [if_neg (fun e=>hne e.symm)];have hj:some j=v'.ownBlock:=hj;rcases hob with e | ⟨i,e,hi⟩
      · rw [e,← hv] at hj;exact h.apart m k j hne hj
      · intro h2;have:=(h.lt h2).2;have:=Option.some.inj (hj.trans e);omega
    · rw [if_neg e1] at hj;by_cases e2:k=n
      · subst e2;rw [if_pos rfl];show ¬ some j=v'.ownBlock;rcases hob with e | ⟨i,e,hi⟩
        · rw [e,← hv];exact h.apart m k j hne hj
        · intro h2;have:=(h.lt hj).2;have:=Option.some.inj (h2.trans e);omega
      · rw [if_neg e2];exact h.apart m k j hne hj
theorem tos_take {l:List Arc} {i:Nat} (h:i<l.length) (n:Str):tosL (l.take (i+1)) n=tosL (l.take i) n++if (l.getD i default).1=n then [(l.getD i default).2] else []:=by
  unfold tosL;rw [take_snoc (d:=default) h,List.filter_append,List.map_append];congr 1;by_cases e:(l.getD i default).1=n
  · rw [if_pos e,List.filter_cons,if_pos (by rw [e];simp)];rfl
  · rw [if_neg e,List.filter_cons,if_neg (by simpa using e)];rfl
theorem tos_len (l:List Arc) (n:Str):(tosL l n).length≤l.length:=by
  unfold tosL;rw [List.length_map];exact List.length_filter_le _ _
theorem tos_short {l:List Arc} (hx:∀ a∈l,a.1.length≤9223372036854775807∧a.2.length≤9223372036854775807) (n:Str):∀ x∈tosL l n,x.length≤9223372036854775807:=fun x h=>(hx _ (mem_tos.1 h)).2
theorem next_short {l:List Arc} (hx:∀ a∈l,a.1.length≤9223372036854775807∧a.2.length≤9223372036854775807) (n:Str):∀ x∈nextS l n,x.length≤9223372036854775807:=fun x h=>(hx _ (mem_next.1 h)).2
set_option maxHeartbeats 1000000 in
theorem outs36 (A0:Nat→Prop) (v:Value) (l:List Arc) (w:World) (h0:ArcsAt A0 w v l) (hll:l.length≤400000):
    Ret Try.prog 24 #[v] w fun r w'=>(r=.map (some w.heap.size)∧NextMap (fun k=>k≤w.heap.size) w' w.heap.size (nextS l))∧Bel w w':=by
  obtain ⟨B,hb,hV⟩:∃ A:Nat→Prop,ArcsAt A w v l∧(∀ k,w.heap.size≤k→A k):=⟨_,RecsAt.up h0,fun _=>.inr⟩;obtain ⟨p,cap,row,rfl,a1,a2,a3,hr⟩:=hb;have hxl:=arcs_len hr;refine ret_of_W Try.func24 rfl (Nat.le_of_ble_eq_true rfl) (res1 rfl) ?_;have hB:=Gr.refl (fun _=>False) w;refine W.seq (W.region (L.val (x_as (v:=.map _) rfl) rfl ?_));refine L.nil (thn_n (W.seq (W.region (L.mkmapK (κ := Str) (K:=S) (V:=fun _=>True) Try.underlying47 rfl (fun w9 mp hw hz9=>?_)))));have hB:=hB.carry hw;have hr:=hr.carry hw;have hgm:GrowM (w.heap.size+1) w9 w.heap.size [] (fun n=>tosL (l.take 0) n):=⟨mp,fun n=>own_nil,fun n m j _ hj=>by cases hj⟩;refine L.val (x_as (v:=.map _) rfl) rfl ?_;refine L.nil (thn_n (W.seq (W.seq (W.region (L.val (x_mv (v:=.slice _ _ _) rfl) rfl ?_)))));refine L.val (x_len_slice Try.underlying22 rfl) rfl ?_;refine L.val (x_mv (v:=.int _ _) rfl) rfl ?_;refine L.nil (thn_n (W.block (W.loop (fun m' E w'=>∃ (i:Nat) (ml:List (Str × Value)),m'=l.length - i∧E 3=.map (some w.heap.size)∧E 10=.slice p l.length cap∧E 11=.int .i64 (l.length:Nat)∧E 12=.int .i64 (i:Nat)∧(i≤l.length)∧(Bel w w')∧(RecRow ArC 2 B w' p row l)∧(GrowM (w.heap.size+1) w' w.heap.size ml (fun n=>tosL (l.take i) n))∧(ml.length≤i)) (l.length) ?_ ?_)))
  ·exact ⟨0,[],by omega,vi_,vi_,vi_,vi_,ao_,ao_,ao_,ao_,(by exact Nat.le_refl 0)⟩
  ·rintro _ E wL13 ⟨i,ml,em,e3,e10,e11,e12,hi,hB,hr,hgm,hml⟩;rw [upd_self e3,upd_self e10,upd_self e11,upd_self e12];refine W.seq (W.region ?_);have hsL:=hB.size;have hbL:=hgm.map.lt;have hlo:=fun n j hj=>hgm.lt (n:=n) (j:=j) hj
   refine L.val (x_lss rfl rfl) rfl ?_;refine L.nil (thn_n (W.seq (W.cond (b:=_) rfl (fun g13=>?_) (fun g13=>?_))))
   ·have h13:=of_decide_eq_true g13;have hlt:i<l.length:=by omega
    obtain ⟨pb,po,rfl,-,-⟩:=hr.elem hlt;obtain ⟨ea,-,-⟩:=hr.each i hlt;obtain ⟨a,hae⟩:∃ a,a=l.getD i default:=⟨_,rfl⟩;have htt:=tos_take hlt;rw [← hae] at ea htt;have htl:=tos_len (l.take i) a.1;rw [List.length_take] at htl;refine W.skip (thn_n (W.seq (W.block (W.seq (W.region (L.val (x_ia (j:=i) Try.underlying22 kgre_sz36 rfl rfl om_ om_) rfl ?_))))));refine L.val (x_ldn (vs:=arV a) kgre_ag36 rfl rfl (by have:=hr.elemAt hlt;rw [ea] at this;exact this)) rfl ?_;refine L.alloc (cs:=[S [],S []]) kgre_zr36 rfl rfl (fun w5 bx5 hw hz5=>?_);have hB:=hB.carry hw;have hr:=hr.carry hw;have hgm:=hgm.carry hw;have hz5b:=hz5;refine L.setRow kgre_ag36 rfl rfl bx5 rfl rfl (by simp [Value.oneCell',S,arV]) (fun wl11 bx5 hw hzl11=>?_);have hsz:=hB.size;have hB:=hB.set hw om_;have hr:=hr.carryR hw (fun k e=>hV k (by have e:k=_:=e;omega));have hgm:=hgm.carryR hw (fun e=>by have e:_=_:=e;omega) (fun n j hj e=>by have e:j=_:=e;have:=hlo n j hj;omega);have bx5:Box wl11 _ 36 [S a.1,S a.2]:=bx5;obtain ⟨v0,hv0⟩:∃ v,(getK ml a.1).getD (.slice none 0 0)=v:=⟨_,rfl⟩;have ho0:=hgm.own a.1;rw [hv0] at ho0;obtain ⟨a0,c0,rfl,-⟩:=own_shape ho0;have hlo0:∀ j,some j=(Value.slice a0 (tosL (l.take i) a.1).length c0).ownBlock→w.heap.size+1≤j∧j<wL13.heap.size:=fun j hj=>by rw [← hv0] at hj;exact hlo a.1 j hj
    have hmp:=hgm.map;have hsl11:=hB.size;have h5l:=bx5.lt;refine L.nil (thn_n (W.drawD (fun k=>k=w.heap.size∨some k=(Value.slice a0 (tosL (l.take i) a.1).length c0).ownBlock) (fun k=>some k=(Value.slice a0 (tosL (l.take i) a.1).length c0).ownBlock) 11 kgre_mixed (fun wD16 hw=>?_)));have hB:=hB.carry hw;have hr:=hr.carry hw;have bx5:=bx5.carry hw;have hgm:=hgm.carry hw;have hmp:=hmp.carry hw;have ho0:=ho0.carry hw;have hB0:=Gr.refl (fun k=>some k=(Value.slice a0 (tosL (l.take i) a.1).length c0).ownBlock) wD16;have hR0:=Gr.refl (fun k=>k=w.heap.size∨some k=(Value.slice a0 (tosL (l.take i) a.1).length c0).ownBlock) wD16;have hs16:=hw.size;refine LAD.take0 (i:=0) rfl kr_ kr_ kr_ kr_ (fun w hw=>x_mv (v:=.map _) rfl) rfl ?_;refine LAD.take0 (i:=1) rfl kr_ kr_ kr_ kr_ (fun w hw=>x_fa kgre_fo36_0 rfl) rfl ?_;refine LAD.take0 (i:=2) rfl kr_ kr_ kr_ kr_ (fun w hw=>x_ld (v:=S _) kgre_oc9 rfl (hw.keepR ((by rintro (e | e) <;> first | (have e:(_:Nat)=_:=e;dsimp only at e;omega) | (have:=hlo0 _ e;dsimp only at this;omega))) (bx5.cell0 rfl))) rfl ?_;refine LAD.take0 (i:=3) rfl kr_ kr_ kr_ kr_ (fun w hw=>x_mv (v:=.map _) rfl) rfl ?_;refine LAD.take0 (i:=4) rfl kr_ kr_ kr_ kr_ (fun w hw=>x_fa kgre_fo36_0 rfl) rfl ?_;refine LAD.take0 (i:=5) rfl kr_ kr_ kr_ kr_ (fun w hw=>x_ld (v:=S _) kgre_oc9 rfl (hw.keepR ((by rintro (e | e) <;> first | (have e:(_:Nat)=_:=e;dsimp only at e;omega) | (have:=hlo0 _ e;dsimp only at this;omega))) (bx5.cell0 rfl))) rfl ?_;refine LAD.take0 (i:=7) rfl kr_ kr_ kr_ kr_ (fun w hw=>x_fa kgre_fo36_1 rfl) rfl ?_;refine LAD.take0 (i:=8) rfl kr_ kr_ kr_ kr_ (fun w hw=>x_ld (v:=S _) kgre_oc9 rfl (hw.keepR ((by rintro (e | e) <;> first | (have e:(_:Nat)=_:=e;dsimp only at e;omega) | (have:=hlo0 _ e;dsimp only at this;omega))) (bx5.cell0 rfl))) rfl ?_;refine LAD.step (rs:=[6,9]) hR0 (fun _=>hB0) kr_ (by simp) ⟨⟨_,rfl,?_⟩,⟨_,rfl,?_⟩,trivial⟩
    ·refine L.val (x_look0 (z:=.slice none 0 0) Try.underlying47 (klawS Try.underlying9) kr_ rfl rfl trivial hmp hv0) rfl ?_;refine L.nil (thn_n (LAD.step (rs:=[9]) hR0 (fun _=>hB0) kr_ (by simp) ⟨⟨_,rfl,?_⟩,trivial⟩));refine L.bs (sz:=1) (cells:=[S a.2]) Try.underlying23 kgre_el9 rfl rfl rfl rfl (fun w25 bx25 hw hz25=>?_);have hB0:=hB0.carry hw;have hR0:=hR0.carry hw;have hmp:=hmp.carry hw;have ho0:=ho0.carry hw;refine L.nil (thn_n (LAD.step (rs:=[10]) hR0 (fun _=>hB0) kr_ (by simp) ⟨⟨_,rfl,?_⟩,trivial⟩));have hs26:=hB0.size;refine L.appendN (m:=1) Try.underlying23 kgre_el9 rfl rfl rfl ho0 rfl (holdsN_box bx25) (by simp [Value.oneCell',S]) om_ om_ (fun v26 w26 hO26 hg hob26=>?_);have hB0:=hB0.intoR hg (fun k e=>e);have hR0:=hR0.intoR hg (fun k e=>.inr e);have hmp:=MapAtK.carryR hmp hg (fun e=>by have:=hlo0 _ e;omega);obtain ⟨a26,c26,e26,-⟩:=own_shape hO26;subst e26;refine L.nil (thn_n (LAD.step (rs:=[11]) hR0 (fun _=>hB0) kr_ (by simp) ⟨⟨_,rfl,?_⟩,trivial⟩));refine L.mapsetK (v:=.slice _ _ _) Try.underlying47 (klawS Try.underlying9) rfl rfl trivial rfl hmp (fun wl23 hmp hw hzl23=>?_);have hR0:=hR0.into hw (.inl rfl);have hO26:=Own.carryR hO26 hw (fun j hj e=>by have e:j=_:=e;have:=(Own.lt hO26 hj).1;omega);refine L.nil (thn_n (LAD.done kr_ kr_ hR0 ?_));have hB:=hB.step hR0 (fun i hi e=>by rcases e with e | e <;> first | omega | (have:=hlo0 _ e;omega));have hr:=hr.carryR hR0 (fun k e=>hV k (by rcases e with e | e <;> first | omega | (have:=hlo0 _ e;omega)));have bx5:=bx5.carryR hR0 (fun e=>by rcases e with e | e <;> first | omega | (have:=hlo0 _ e;omega));have hgm:=GrowM.step (f':=fun n=>tosL (l.take (i+1)) n) hgm hv0 hR0 om_ hmp (by rw [htt,if_pos rfl,List.length_append,List.map_append];exact hO26) (fun m hm=>by rw [htt,if_neg (fun e=>hm e.symm),List.append_nil]) (hob26.imp id (fun e=>⟨_,e,hs26⟩));have hgm2:=hgm;have hml2:(putK ml a.1 (.slice a26 ((tosL (l.take i) a.1).length+1) c26)).length≤i+1:=by
       have:=congrArg List.length (putK_keys (l:=ml) (x:=a.1) (v:=.slice a26 ((tosL (l.take i) a.1).length+1) c26));rw [List.length_map] at this;rw [this];split
       · rw [List.length_map];omega
       · rw [List.length_append,List.length_map,List.length_singleton];omega
     refine blk_n (thn_n (W.region (L.val (x_add rfl rfl (wr64 om_)) rfl ?_)));refine L.val (x_mv (v:=.int _ _) rfl) rfl ?_;refine L.nil (thn_n ⟨rfl,?_⟩);refine ⟨_,?_,i+1,_,rfl,vi_,vi_,vi_,vi_,ao_,ao_,ao_,(by exact hgm2),(by exact hml2)⟩;omega
    ·refine L.bs (sz:=1) (cells:=[S a.2]) Try.underlying23 kgre_el9 rfl rfl rfl rfl (fun w25 bx25 hw hz25=>?_);have hB0:=hB0.carry hw;have hR0:=hR0.carry hw;have hmp:=hmp.carry hw;have ho0:=ho0.carry hw;refine L.nil (thn_n (LAD.step (rs:=[6]) hR0 (fun _=>hB0) kr_ (by simp) ⟨⟨_,rfl,?_⟩,trivial⟩));refine L.val (x_look0 (z:=.slice none 0 0) Try.underlying47 (klawS Try.underlying9) kr_ rfl rfl trivial hmp hv0) rfl ?_;refine L.nil (thn_n (LAD.step (rs:=[10]) hR0 (fun _=>hB0) kr_ (by simp) ⟨⟨_,rfl,?_⟩,trivial⟩));have hs26:=hB0.size;refine L.appendN (m:=1) Try.underlying23 kgre_el9 rfl rfl rfl ho0 rfl (holdsN_box bx25) (by simp [Value.oneCell',S]) om_ om_ (fun v26 w26 hO26 hg hob26=>?_);have hB0:=hB0.intoR hg (fun k e=>e);have hR0:=hR0.intoR hg (fun k e=>.inr e);have hmp:=MapAtK.carryR hmp hg (fun e=>by have:=hlo0 _ e;omega);obtain ⟨a26,c26,e26,-⟩:=own_shape hO26;subst e26;refine L.nil (thn_n (LAD.step (rs:=[11]) hR0 (fun _=>hB0) kr_ (by simp) ⟨⟨_,rfl,?_⟩,trivial⟩));refine L.mapsetK (v:=.slice _ _ _) Try.underlying47 (klawS Try.underlying9) rfl rfl trivial rfl hmp (fun wl23 hmp hw hzl23=>?_);have hR0:=hR0.into hw (.inl rfl);have hO26:=Own.carryR hO26 hw (fun j hj e=>by have e:j=_:=e;have:=(Own.lt hO26 hj).1;omega);refine L.nil (thn_n (LAD.done kr_ kr_ hR0 ?_));have hB:=hB.step hR0 (fun i hi e=>by rcases e with e | e <;> first | omega | (have:=hlo0 _ e;omega));have hr:=hr.carryR hR0 (fun k e=>hV k (by rcases e with e | e <;> first | omega | (have:=hlo0 _ e;omega)));have bx5:=bx5.carryR hR0 (fun e=>by rcases e with e | e <;> first | omega | (have:=hlo0 _ e;omega));have hgm:=GrowM.step (f':=fun n=>tosL (l.take (i+1)) n) hgm hv0 hR0 om_ hmp (by rw [htt,if_pos rfl,List.length_append,List.map_append];exact hO26) (fun m hm=>by rw [htt,if_neg (fun e=>hm e.symm),List.append_nil]) (hob26.imp id (fun e=>⟨_,e,hs26⟩));have hgm2:=hgm;have hml2:(putK ml a.1 (.slice a26 ((tosL (l.take i) a.1).length+1) c26)).length≤i+1:=by
       have:=congrArg List.length (putK_keys (l:=ml) (x:=a.1) (v:=.slice a26 ((tosL (l.take i) a.1).length+1) c26));rw [List.length_map] at this;rw [this];split
       · rw [List.length_map];omega
       · rw [List.length_append,List.length_map,List.length_singleton];omega
     refine blk_n (thn_n (W.region (L.val (x_add rfl rfl (wr64 om_)) rfl ?_)));refine L.val (x_mv (v:=.int _ _) rfl) rfl ?_;refine L.nil (thn_n ⟨rfl,?_⟩);refine ⟨_,?_,i+1,_,rfl,vi_,vi_,vi_,vi_,ao_,ao_,ao_,(by exact hgm2),(by exact hml2)⟩;omega
   ·have h13:=dlt_f g13;have hii:i=l.length:=by omega
    have hml1:ml.length≤400000:=by omega
    rw [hii,List.take_length] at hgm;have hmp:=hgm.map;have hnd:=hmp.nodup;have hnone:∀ n,n∉ml.map (·.1)→tosL l n=[]:=fun n hn=>by
      have h1:getK ml n=none:=by unfold getK;rw [if_neg (fun e=>hn (idxK_mem.1 e))]
      have h2:=hgm.own n;rw [h1] at h2;obtain ⟨a,c,e,-⟩:=own_shape h2;cases htl:tosL l n with
      | nil=>rfl
      | cons x r=>rw [htl] at e;cases e
    have hval:∀ n,StrsAt (fun k=>k≤w.heap.size) wL13 ((getK ml n).getD (.slice none 0 0)) (if n∈([]:List Str) then nextS l n else tosL l n):=fun n=>by
      rw [if_neg (by simp)];exact strs_done (hgm.own n) (by have:=tos_len l n;omega) (tos_short hxl n) (fun j hj e=>by have e:j≤_:=e;omega)
    refine W.exit (thn_x (thn_x (blk_hit ?_)));refine thn_n (W.seq (W.seq (W.region (L.val (x_mv (v:=.map _) rfl) rfl ?_))));refine L.ret (x_call kgre_en46 rfl) rfl (keys_okG _ _) ?_;rintro _ w29 ⟨rfl,bx29,hw⟩;have hB:=hB.carry hw;have hmp:=hmp.carry hw;have hs29:=hB.size;have hval:=fun n=>(hval n).carry hw
    refine L.ret (x_call kgre_en45 rfl) rfl (collect_ok _ _ (ml.map (·.1)) _ kgre_en56 (by rw [List.length_map];omega) (fun _ h=>h) (by rw [List.length_map];exact keys_seqG _ _ _ ml _ bx29.lt (bx29.cell (i:=0) rfl) hmp.str)) ?_;rintro v30 w30 ⟨⟨xs,hpx,hO,-⟩,hw⟩;have hB:=hB.carry hw;have hmp:=hmp.carry hw;have hval:=fun n=>(hval n).carry hw
    obtain ⟨ax,cx,rfl,-⟩:=own_shape hO;have hs30:=hw.size;have hxk:xs.length≤400000:=by have:=hpx.length_eq;rw [List.length_map] at this;omega
    have hxn:xs.Nodup:=hpx.nodup_iff.2 hnd;have hs30b:=hB.size;refine L.val (x_len_slice Try.underlying23 rfl) rfl ?_;refine L.val (x_mv (v:=.int _ _) rfl) rfl ?_;refine L.nil (thn_n (W.block (W.loop (fun m' E w'=>∃ (k:Nat) (mm:List (Str × Value)),m'=xs.length - k∧E 3=.map (some w.heap.size)∧E 30=.slice ax xs.length cx∧E 31=.int .i64 (xs.length:Nat)∧E 32=.int .i64 (k:Nat)∧(k≤xs.length)∧(Bel w w')∧(Own w' (w29.heap.size+1) 9 1 (.slice ax xs.length cx) xs.length (xs.map S))∧(MapAtK S (fun _=>True) w' w.heap.size mm)∧(∀ n,StrsAt (fun k=>k≤w.heap.size) w' ((getK mm n).getD (.slice none 0 0)) (if n∈xs.take k then nextS l n else tosL l n))) (xs.length) ?_ ?_)))
    ·exact ⟨0,ml,by omega,vi_,vi_,vi_,vi_,ao_,ao_,ao_,ao_,(by simpa using hval)⟩
    ·rintro _ E wL33 ⟨k,mm,em,e3,e30,e31,e32,hk,hB,hO,hmp,hval⟩;rw [upd_self e3,upd_self e30,upd_self e31,upd_self e32];refine W.seq (W.region ?_);have hsL:=hB.size;have hbL:=hmp.lt;refine L.val (x_lss rfl rfl) rfl ?_;refine L.nil (thn_n (W.seq (W.cond (b:=_) rfl (fun g33=>?_) (fun g33=>?_))))
     ·have h33:=of_decide_eq_true g33;have hlt:k<xs.length:=by omega
      obtain ⟨bx,rfl⟩:=own_pos hO om_;obtain ⟨n,hn⟩:∃ n,n=xs.getD k []:=⟨_,rfl⟩;have hnot:n∉xs.take k:=fun h=>by
        obtain ⟨j,hj,e⟩:=List.getElem_of_mem h;rw [List.length_take] at hj;rw [List.getElem_take] at e;have e2:xs[j]'om_=xs[k]'hlt:=by rw [e,hn,List.getD_eq_getElem?_getD,List.getElem?_eq_getElem hlt];rfl
        have:=(List.getElem_inj hxn).1 e2;omega
      have hvn:=hval n;rw [if_neg hnot] at hvn;obtain ⟨pn,cn,ev,-⟩:=id hvn;rw [ev] at hvn;have hvn:=hvn.up;have htl:=tos_len l n;have hlo:=fun j hj=>Own.lt hO (j:=j) hj
      refine W.skip (thn_n (W.seq (W.block (W.seq (W.region (L.val (x_ia1 (j:=k) Try.underlying23 kgre_sz9 rfl rfl om_ om_) rfl ?_))))));refine L.val (x_ld (v:=S _) kgre_oc9 rfl (own_cell1 hO hlt)) rfl ?_;rw [← hn];refine L.val (x_as (v:=S _) rfl) rfl ?_;refine L.nil (thn_n (W.seq (W.region (L.val (x_mv (v:=.map _) rfl) rfl ?_))));refine L.val (x_mv (v:=S _) rfl) rfl ?_;refine L.val (x_look0 (z:=.slice none 0 0) Try.underlying47 (klawS Try.underlying9) kr_ rfl rfl trivial hmp ev) rfl ?_;refine L.ret (x_call kgre_en48 rfl) rfl (values_ok _ _ _ _) ?_;rintro _ w39 ⟨rfl,bx39,hw⟩;have hB:=hB.carry hw;have hO:=hO.carry hw;have hmp:=hmp.carry hw;have hvn:=hvn.carry hw;have hs39:=hw.size;have hval:=fun n=>(hval n).up.carry hw
      refine L.ret (x_call kgre_en26 rfl) rfl (sorted_ok _ _ (tosL l n) _ kgre_en57 om_ (fun _ h=>List.Perm.of_eq h) (vals_seq (fun k=>k≤w.heap.size∨wL33.heap.size≤k) _ _ _ (tosL l n) _ (fun k hk=>.inr om_) bx39.lt (bx39.cell (i:=0) rfl) hvn (fun k hk=>.inr om_))) ?_;rintro v40 w40 ⟨hN,hw⟩;have hB:=hB.carry hw;have hO:=hO.carry hw;have hmp:=hmp.carry hw;have hvn:=hvn.carry hw;have hval:=fun n=>(hval n).carry hw
      have hs40:=hw.size;refine L.ret (x_call kgre_en47 rfl) rfl (compact_new36 _ _ _ (tosL l n) om_ hN) ?_;rintro v41 w41 ⟨hL,hg⟩;have hB:=hB.step hg (fun i hi e=>by omega);have hO:=Own.carryR hO hg (fun j hj e=>by have:=hlo j hj;have e:_≤j:=e;omega);have hmp:=MapAtK.carryR hmp hg (fun e=>by have e:_≤_:=e;omega);have hval:∀ n,StrsAt (fun k=>k≤w.heap.size) w41 ((getK mm n).getD (.slice none 0 0)) (if n∈xs.take k then nextS l n else tosL l n):=fun n=>
        ((hval n).carryR hg (fun k e=>.inr (by have e:_≤k:=e;omega))).mono (fun k _ h=>.inl h)
      have hL2:StrsAt (fun k=>k≤w.heap.size) w41 v41 (nextS l n):=hL.strs (next_short hxl n) (by have:=next_len l n;show (nextS l n).length≤_;omega) _ (fun j hj e=>by have e:j≤_:=e;omega);obtain ⟨p41,c41,rfl,-⟩:=hL.shape;refine L.val (x_as (v:=.slice _ _ _) rfl) rfl ?_;refine L.nil (thn_n (W.region (L.val (x_mv (v:=.map _) rfl) rfl ?_)));refine L.val (x_mv (v:=S _) rfl) rfl ?_;refine L.val (x_mv (v:=.slice _ _ _) rfl) rfl ?_;refine L.mapsetK (v:=.slice _ _ _) Try.underlying47 (klawS Try.underlying9) rfl rfl trivial rfl hmp (fun wl45 hmp hw hzl45=>?_);have hB:=hB.set hw (Nat.le_refl _);have hO:=Own.carryR hO hw (fun j hj e=>by have:=hlo j hj;have e:j=_:=e;omega);have hval2:∀ m,StrsAt (fun k=>k≤w.heap.size) wl45 ((getK (putK mm n (.slice p41 (onceL (tosL l n)).length c41)) m).getD (.slice none 0 0)) (if m∈xs.take (k+1) then nextS l m else tosL l m):=fun m=>by
        rw [getK_put,take_snoc (d:=[]) hlt,← hn];by_cases e:m=n
        · subst e;rw [if_pos rfl,if_pos (by simp)];exact hL2.carryR hw (fun k e=>by have e:k=_:=e;show k≤_;omega)
        · rw [if_neg e];have h1:=(hval m).carryR hw (fun k e=>by have e:k=_:=e;show k≤_;omega);have h2:(m∈xs.take k++[n])↔m∈xs.take k:=by simp [e]
          by_cases h3:m∈xs.take k
          · rw [if_pos h3] at h1;rw [if_pos (h2.2 h3)];exact h1
          · rw [if_neg h3] at h1;rw [if_neg (fun h=>h3 (h2.1 h))];exact h1
      refine L.nil (blk_n (thn_n (W.region (L.val (x_add rfl rfl (wr64 om_)) rfl ?_))));refine L.val (x_mv (v:=.int _ _) rfl) rfl ?_;refine L.nil (thn_n ⟨rfl,?_⟩);refine ⟨_,?_,k+1,_,rfl,vi_,vi_,vi_,vi_,ao_,ao_,ao_,ao_,(by exact hval2)⟩;omega
     ·have h33:=dlt_f g33;have hkk:k=xs.length:=by omega
      rw [hkk,List.take_length] at hval;refine W.exit (thn_x (thn_x (blk_hit ?_)));refine thn_n (W.seq (W.region (L.val (x_mv (v:=.map _) rfl) rfl ?_)));refine L.val (x_as (v:=.map _) rfl) rfl ?_;refine L.nil (thn_n (W.ret (fin_mk (.inr rfl) ?_)));refine ⟨⟨rfl,mm,hmp,fun n=>?_⟩,hB⟩;have h:=hval n;by_cases e:n∈xs
      · rw [if_pos e] at h;exact h
      · rw [if_neg e] at h;have h2:=hnone n (fun e2=>e (hpx.mem_iff.2 e2));have h3:nextS l n=[]:=by unfold nextS;rw [h2];rfl
        rw [h3];rw [h2] at h;exact h
end Go.Gx
