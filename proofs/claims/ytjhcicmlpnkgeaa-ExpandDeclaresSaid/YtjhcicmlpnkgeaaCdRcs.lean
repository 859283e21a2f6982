/- Rows of things joined, cut, and handed on. Conditions: none. -/
import Derived.Test.YtjhcicmlpnkgeaaCdSort3
import Derived.Test.YtjhcicmlpnkgeaaCdDrawD
import Derived.Test.YtjhcicmlpnkgeaaCdExp3
namespace Go.Gx
open Go.Proofs
section
variable {w:World}
theorem HoldsN.take {p:Option Addr} {n cap sz:Nat} {xs:List Value} (h:HoldsN w (.slice p n cap) n xs) {k:Nat} (hk:k≤n):HoldsN w (.slice p k cap) k (xs.take (k * sz)):=by
  rcases h with ⟨a,c,e,hc⟩ | ⟨c,e,h0,hx⟩
  · cases e;exact .inl ⟨a,cap,rfl,fun j x hj=>hc j x (by rw [List.getElem?_take] at hj;split at hj;exact hj;cases hj)⟩
  · cases e;have:k=0:=by omega
    subst this;exact .inr ⟨cap,rfl,rfl,by simp⟩
theorem HoldsN.drop {p:Option Addr} {n cap sz:Nat} {xs:List Value} (h:HoldsN w (.slice p n cap) n xs) (hl:xs.length=n * sz) (hn:n≤cap) {k:Nat} (hk:k≤n):HoldsN w (.slice (if cap=k then p else p.map (·.add (k * sz))) (n - k) (cap - k)) (n - k) (xs.drop (k * sz)):=by
  rcases h with ⟨a,c,e,hc⟩ | ⟨c,e,h0,hx⟩
  · cases e;by_cases hck:cap=k
    · have hkn:k=n:=by omega
      rw [if_pos hck];refine .inl ⟨a,_,rfl,fun j x hj=>?_⟩;rw [List.drop_of_length_le (by rw [hl,hkn];exact Nat.le_refl _)] at hj;simp at hj
    · rw [if_neg hck];refine .inl ⟨_,_,rfl,fun j x hj=>?_⟩;rw [List.getElem?_drop] at hj;have h1:=hc _ x hj;obtain ⟨b,o,spot⟩:=a;have hlt:=(List.getElem?_eq_some_iff.1 hj).1;have hsp:spot=none:=by simpa [Addr.add] using World.cell?_spot (hc 0 _ (List.getElem?_eq_getElem (by omega:0<xs.length)))
      subst hsp;show w.cell? (((⟨b,o,none⟩:Addr).add (k * sz)).add j)=some x;rw [addp,addp];rw [addp] at h1;rw [← h1];congr 2;omega
  · cases e;have:k=0:=by omega
    subst this;refine .inr ⟨cap - 0,?_,rfl,by rw [hx];simp⟩;split <;> rfl
def RowsC {α : Type} [Inhabited α] (C:Thing α) (A:Nat→Prop) (w:World) (rows:List (List Value)) (l:List α):Prop:=rows.length=l.length∧∀ i,i<l.length→C A w (rows.getD i []) (l.getD i default)
theorem RecRow.rowsC {α : Type} [Inhabited α] {C:Thing α} {k:Nat} {A:Nat→Prop} {p:Option Addr} {row:Nat→List Value} {l:List α} (h:RecRow C k A w p row l):RowsC C A w ((List.range l.length).map row) l:=
  ⟨by simp,fun i hi=>by have:=h.each i hi;simpa [hi] using this⟩
theorem RowsC.append {α : Type} [Inhabited α] {C:Thing α} {A:Nat→Prop} {r r':List (List Value)} {l l':List α} (h:RowsC C A w r l) (h':RowsC C A w r' l'):RowsC C A w (r++r') (l++l'):=by
  refine ⟨by simp [h.1,h'.1],fun i hi=>?_⟩;simp only [List.getD_eq_getElem?_getD];by_cases hlt:i<l.length
  · rw [List.getElem?_append_left (by rw [h.1];exact hlt),List.getElem?_append_left hlt];have:=h.2 i hlt;simpa only [List.getD_eq_getElem?_getD] using this
  · rw [List.getElem?_append_right (by rw [h.1];omega),List.getElem?_append_right om_,h.1];have:=h'.2 (i - l.length) (by simp at hi;omega);simpa only [List.getD_eq_getElem?_getD] using this
theorem RowsC.one {α : Type} [Inhabited α] {C:Thing α} {A:Nat→Prop} {r:List Value} {x:α} (h:C A w r x):RowsC C A w [r] [x]:=⟨rfl,fun i hi=>by match i,hi with | 0,_=>exact h⟩
theorem RowsC.nil {α : Type} [Inhabited α] {C:Thing α} {A:Nat→Prop}:RowsC C A w [] ([]:List α):=⟨rfl,fun i hi=>absurd hi (by simp)⟩
theorem RowsC.take {α : Type} [Inhabited α] {C:Thing α} {A:Nat→Prop} {r:List (List Value)} {l:List α} (h:RowsC C A w r l) (k:Nat):RowsC C A w (r.take k) (l.take k):=by
  refine ⟨by simp [h.1],fun i hi=>?_⟩;have hi2:i<l.length∧i<k:=by rw [List.length_take] at hi;omega
  have:=h.2 i hi2.1;simp only [List.getD_eq_getElem?_getD] at this ⊢
  rwa [List.getElem?_take_of_lt hi2.2,List.getElem?_take_of_lt hi2.2]
theorem RowsC.drop {α : Type} [Inhabited α] {C:Thing α} {A:Nat→Prop} {r:List (List Value)} {l:List α} (h:RowsC C A w r l) (k:Nat):RowsC C A w (r.drop k) (l.drop k):=by
  refine ⟨by simp [h.1],fun i hi=>?_⟩;have hi2:k+i<l.length:=by rw [List.length_drop] at hi;omega
  have:=h.2 (k+i) hi2;simp only [List.getD_eq_getElem?_getD] at this ⊢
  rwa [List.getElem?_drop,List.getElem?_drop]
section
variable {α : Type} [Inhabited α] {C:Thing α} {k:Nat} [Car C k] {A A' R:Nat→Prop} {r:List (List Value)} {l:List α}
theorem RowsC.lens (h:RowsC C A w r l):∀ q∈r,q.length=k:=fun q hq=>by
  obtain ⟨i,hi,rfl⟩:=List.getElem_of_mem hq;have:=Car.len (h.2 i (by rw [← h.1];exact hi))
  rwa [List.getD_eq_getElem?_getD,List.getElem?_eq_getElem hi] at this
omit [Car C k] in
theorem RowsC.ones {k:Nat} [Car C k] (h:RowsC C A w r l):∀ u∈r.flatten,u.oneCell'=true:=fun u hu=>by
  obtain ⟨q,hq,hu⟩:=List.mem_flatten.1 hu;obtain ⟨i,hi,rfl⟩:=List.getElem_of_mem hq;refine Car.one (h.2 i (by rw [← h.1];exact hi)) u ?_
  rwa [List.getD_eq_getElem?_getD,List.getElem?_eq_getElem hi]
omit [Car C k] in
theorem RowsC.carryR {k:Nat} [Car C k] {w':World} (h:RowsC C A w r l) (g:Gr R w w') (hR:∀ j,R j→A j):RowsC C A w' r l:=⟨h.1,fun i hi=>Car.carryR (h.2 i hi) g hR⟩
omit [Car C k] in
theorem RowsC.carry {k:Nat} [Car C k] {w':World} (h:RowsC C A w r l) (g:Bel w w'):RowsC C A w' r l:=⟨h.1,fun i hi=>Car.carry (h.2 i hi) g⟩
omit [Car C k] in
theorem RowsC.mono {k:Nat} [Car C k] (h:RowsC C A w r l) (hA:∀ b,b<w.heap.size→A' b→A b):RowsC C A' w r l:=⟨h.1,fun i hi=>Car.mono (h.2 i hi) hA⟩
theorem RowsC.done {base:Nat} {e:TypeId} {v:Value} (h:RowsC C A w r l) (ho:Own w base e k v l.length r.flatten) (hl:l.length≤70368744177664) (hA:∀ j,A' j→A j) (hb:∀ j,base≤j→¬ A' j):RecsAt C k A' w v l:=
  RecOwn.done (A:=A) ⟨r,h.1,ho,fun i hi=>Car.len (h.2 i hi),h.2⟩ hl hA hb
theorem RowsC.doneB {base:Nat} {e:TypeId} {v:Value} (h:RowsC C A w r l) (ho:Own w base e k v l.length r.flatten) (hl:l.length≤70368744177664) (hA:∀ j,A' j→A j) (hb:∀ j,some j=v.ownBlock→¬ A' j):RecsAt C k A' w v l:=by
  have h1:=h.done (A':=fun j=>A' j∧j<base) ho hl (fun j hj=>hA j hj.1) (fun j h1 h2=>by omega);obtain ⟨p,cap,row,e1,g1,g2,g3,hR⟩:=h1;refine ⟨p,cap,row,e1,g1,g2,g3,fun hne=>?_,hR.len,fun i hi=>?_⟩
  · obtain ⟨b,o,hp,-,hc⟩:=hR.at_ hne;exact ⟨b,o,hp,hb b (by rw [e1,hp];rfl),hc⟩
  · obtain ⟨b,o,hp,-,hc⟩:=hR.at_ (by rintro rfl;simp at hi);have hrow:row i=r.getD i []:=by
      rcases Own.open ho with ⟨h1,h2,h3⟩ | ⟨g,cp,tl,h1,-,-,-,hbx⟩
      · rw [h2] at hi;omega
      · have hr:∀ q∈r,q.length=k:=h.lens;rw [h1,hp] at e1;simp only [Value.slice.injEq,Option.some.injEq,Addr.mk.injEq,and_true] at e1;obtain ⟨⟨rfl,rfl⟩,-⟩:=e1;have hri:i<r.length:=by rw [h.1];exact hi
        have hl1:(r.getD i []).length=k:=Car.len (h.2 i hi);apply List.ext_getElem?;intro j;by_cases hj:j<k
        · rw [← hc i j hi hj,Nat.zero_add,← flatk hr hj hri];have hv:(r.getD i [])[j]? = some ((r.getD i [])[j]'om_):=List.getElem?_eq_getElem om_;have hf:=flatk hr hj hri;rw [hv] at hf;have hlt:i * k+j<r.flatten.length:=(List.getElem?_eq_some_iff.1 hf).1;rw [hf];exact hbx.cell (by rw [List.getElem?_append_left hlt];exact hf)
        · rw [List.getElem?_eq_none (by rw [hR.len i hi];omega),List.getElem?_eq_none om_]
    rw [hrow];exact Car.mono (h.2 i hi) fun j _ hj=>hA j hj
omit [Car C k] in
end
end
end Go.Gx
namespace Go.Gx
open Go.ChangeShapes Go.WideShapes Go.Deep Go.RowKit
structure De where
  kind:Int
  name:Str
  sh:Sh
def DeC (A:Nat→Prop) (w:World) (cs:List Value) (d:De):Prop:=∃ rs tl,cs=.int .i64 d.kind :: S d.name :: (rs++tl)∧ShC A w rs d.sh∧tl.length=10∧d.name.length≤9223372036854775807
theorem DeC.len {A:Nat→Prop} {w:World} {cs:List Value} {d:De} (h:DeC A w cs d):cs.length=17:=by obtain ⟨rs,tl,rfl,h,h2,-⟩:=h;simp [h.len,h2]
theorem DeC.move {A A':Nat→Prop} {w w':World} (hc:∀ (a:Addr) v,¬ A a.block→w.cell? a=some v→w'.cell? a=some v∧¬ A' a.block) {cs:List Value} {d:De} (h:DeC A w cs d):DeC A' w' cs d:=by
  obtain ⟨rs,tl,e,h,h2⟩:=h;exact ⟨rs,tl,e,h.move hc,h2⟩
theorem DeC.carryR {A R:Nat→Prop} {w w':World} {cs:List Value} {d:De} (h:DeC A w cs d) (g:Gr R w w') (hR:∀ k,R k→A k):DeC A w' cs d:=h.move fun _ _ hA hv=>⟨g.cell hv (fun hr=>hA (hR _ hr)),hA⟩
theorem DeC.carry {A:Nat→Prop} {w w':World} {cs:List Value} {d:De} (h:DeC A w cs d) (g:Bel w w'):DeC A w' cs d:=h.carryR g fun _ f=>f.elim
theorem DeC.mono {A A':Nat→Prop} {w:World} {cs:List Value} {d:De} (h:DeC A w cs d) (hA:∀ j,j<w.heap.size→A' j→A j):DeC A' w cs d:=h.move fun _ _ hn hv=>⟨hv,fun h'=>hn (hA _ (World.block_lt_of_cell? w _ hv) h')⟩
theorem DeC.up {A:Nat→Prop} {w:World} {cs:List Value} {d:De} (h:DeC A w cs d):DeC (fun k=>A k∨w.heap.size≤k) w cs d:=h.mono fun b hb h'=>h'.resolve_right om_
def decS (env:List Bd) (self:Str) (d:De):List Bd × Int:=
  if d.kind≠1∧d.kind≠2 then (env,0) else
    if (rsvS (findB env) d.sh).2≠0 then ([],(rsvS (findB env) d.sh).2) else (env++[⟨[],d.name,if d.kind=2 then .mk 10 self d.name [] [] else (rsvS (findB env) d.sh).1⟩],0)
section
variable {H:Type} {enc:TypeId × Value→H} {P:Program}
structure DeT (P:Program) (tD tS:TypeId) (g0 g1 g2 g3 g4:Field):Prop where
  hB:P.underlying tD=some (.struct #[g0,g1,g2,g3,g4])
  h0:P.underlying g0.type=some (.int .i64)
  h1:P.underlying g1.type=some .string
  h2:g2.type=tS
  o:g0.offset=0∧g1.offset=1∧g2.offset=2
  c:P.cellsOf g0.type=1∧P.cellsOf g1.type=1∧P.cellsOf tS=5∧P.cellsOf tD=17
theorem de_arg {tD tS eN:TypeId} {g0 g1 g2 g3 g4 f0 f1 f2 f3 f4:Field} (G:DeT P tD tS g0 g1 g2 g3 g4) (T:ShT P tS eN f0 f1 f2 f3 f4) {W:World} {base:Nat} {v:Value} {d:DataW H} {p:List MemPlace}
    (hv:Value.okWide P W .any base tD v) (h:DataW.Trod enc P W 0 (fun _=>true) true tD v d p) (hw:(d.weights P tD).all (· ≤ reachBytes)=true):∃ cs b,v=.agg cs.toArray∧DeC (fun _=>False) W cs b:=by
  unfold Value.okWide at hv;rw [G.hB] at hv;obtain ⟨a,rfl,-⟩:=hv;obtain ⟨fuel,h⟩:=h;obtain ⟨cs,hcs⟩:∃ cs,cs=(Value.agg a).cells.toList:=⟨_,rfl⟩;rw [← hcs] at h;obtain ⟨xs,n,rfl,hx,hlen,hxl,hf⟩:=DataW.trod_struct G.hB h;simp only [Prod.mk.injEq] at hx;obtain ⟨rfl,-⟩:=hx;obtain ⟨o0,o1,o2⟩:=G.o;obtain ⟨c0,c1,c2,c3⟩:=G.c;rw [c3] at hlen;have ha:a=cs.toArray:=by rw [hcs];simp [Value.cells]
  clear hcs
  match cs,hlen with
  | v0 :: v1 :: r,hlen=>
    match xs,hxl with
    | [x0,x1,x2,x3,x4],_=>
      have g0':=hf 0 g0 rfl;have g1':=hf 1 g1 rfl;have g2':=hf 2 g2 rfl;rw [o0,c0] at g0';rw [o1,c1] at g1';rw [o2,G.h2,c2] at g2';have w2:=weights_at G.hB hw (i:=2) (f:=g2) (d:=x2.1) rfl rfl;obtain ⟨k,e0,-,-⟩:=DataW.trod_int G.h0 (x:=x0) g0';obtain ⟨s1,e1,-,l1⟩:=DataW.trod_string G.h1 (x:=x1) g1';rw [G.h2] at w2;obtain ⟨s,hs⟩:=sh_open T _ _ x2 g2' w2;simp at e0 e1;refine ⟨_,⟨k,s1.data.toList,s⟩,congrArg Value.agg ha,r.take 5,r.drop 5,?_,hs,by simp at hlen ⊢;omega,max_le l1⟩;rw [e0,e1,List.take_append_drop];simp [S]
theorem str_arg {tT:TypeId} (ht:P.underlying tT=some .string) {W:World} {base:Nat} {v:Value} {d:DataW H} {p:List MemPlace}
    (hv:Value.okWide P W .any base tT v) (h:DataW.Trod enc P W 0 (fun _=>true) true tT v d p):∃ s:Str,v=S s∧s.length≤9223372036854775807:=by
  obtain ⟨fuel,h⟩:=h;have hcells:v.cells.toList=[v]:=by
    unfold Value.okWide at hv;rw [ht] at hv;cases v <;> simp_all [Value.cells,Cell.okWide,Cell.ok]
  rw [hcells] at h;obtain ⟨s,e,-,l⟩:=DataW.trod_string ht (x:=(d,p)) h;simp at e;exact ⟨s.data.toList,by rw [e];simp [S],max_le l⟩
end
end Go.Gx
namespace Go.Gx
open Go.Proofs
theorem kexp5_ag25:aggT Try.prog 25 5=true:=by kernel_rfl
theorem kexp5_el37:elT Try.prog 37 7=true:=by kernel_rfl
theorem kexp5_en11:Go.Proofs.Enters Try.prog 11:=Go.Proofs.enters_of Try.func11 kr_ rfl
theorem kexp5_en35:Go.Proofs.Enters Try.prog 35:=Go.Proofs.enters_of Try.func35 kr_ rfl
theorem kexp5_fo49_0:fieldOff Try.prog 49 0=some 0:=by kernel_rfl
theorem kexp5_fo49_1:fieldOff Try.prog 49 1=some 1:=by kernel_rfl
theorem kexp5_fo49_2:fieldOff Try.prog 49 2=some 2:=by kernel_rfl
theorem kexp5_oc3:oneCellT Try.prog 3=true:=by kernel_rfl
theorem kexp5_oc9:oneCellT Try.prog 9=true:=by kernel_rfl
theorem kexp5_si25:structInfo Try.prog 25=some ([(0,1),(1,1),(2,1),(3,1),(4,1)],[Value.int .i64 0,S [],S [],Value.slice none 0 0,Value.slice none 0 0]):=by kernel_rfl
theorem kexp5_si37:structInfo Try.prog 37=some ([(0,1),(1,1),(2,5)],[S [],S [],Value.int .i64 0,S [],S [],Value.slice none 0 0,Value.slice none 0 0]):=by kernel_rfl
theorem kexp5_zr25:(Try.prog.info? 25).bind (·.zero)=some (Value.agg [Value.int .i64 0,S [],S [],Value.slice none 0 0,Value.slice none 0 0].toArray):=by kernel_rfl
theorem clone_bds (A:Nat→Prop) (v:Value) (env:List Bd) (w:World) (h:BdsAt A w v env) (hl:env.length≤1000000):
    Ret Try.prog 35 #[v] w fun v' w'=>(∃ a c rows,v'=.slice a env.length c∧Own w' w.heap.size 37 7 v' env.length rows.flatten∧RowsC BdC A w' rows env)∧Bel w w':=by
  obtain ⟨p,cap,row,rfl,p1,p2,p3,hE⟩:=h;have hh:=hE.holds (cap:=cap);have hR:=hE.rowsC;obtain ⟨rows,hr0⟩:∃ rows,rows=(List.range env.length).map row:=⟨_,rfl⟩;rw [← hr0] at hh hR;have hfl:rows.flatten.length=env.length * 7:=by rw [flat_len hR.lens,hR.1]
  refine ret_of_W Try.func35 rfl (Nat.le_of_ble_eq_true rfl) (res1 rfl) ?_;have hB:=Gr.refl (fun _=>False) w;refine W.seq (W.region (L.val (x_as (v:=.slice _ _ _) rfl) rfl ?_));refine L.nil (thn_n (W.seq (W.seq (W.region (L.val (x_mv (v:=.slice _ _ _) rfl) rfl ?_)))));refine L.val (x_eql0 Try.underlying26 rfl rfl) rfl ?_;refine L.nil (thn_n (W.cond (b:=_) rfl (fun g4=>?_) (fun g4=>?_)))
  ·have h4:=g4;refine W.seq (W.region (L.val (x_as (v:=.slice _ _ _) rfl) rfl ?_));refine L.nil (thn_n (W.ret (thn_r (fin_mk (.inr rfl) ?_))));have e:env=[]:=by cases p with
     | none=>exact Classical.byContradiction fun hne=>by obtain ⟨b,o,e,-⟩:=hE.at_ hne;cases e
     | some a=>cases h4
   subst e;exact ⟨⟨none,0,[],rfl,own_nil,RowsC.nil⟩,hB⟩
  ·have h4:=g4;refine W.skip (thn_n (W.seq (W.region (L.bs0 Try.underlying26 kexp5_el37 rfl (fun w5 hO5 hw hz5=>?_)))));have hB:=hB.carry hw;have hh:=hh.carry hw;have hR:=hR.carry hw;refine L.val (x_mv (v:=.slice _ _ _) rfl) rfl ?_;refine L.appendN (m:=env.length) Try.underlying26 kexp5_el37 rfl rfl rfl hO5 hfl hh hR.ones om_ om_ (fun v7 w7 hO7 hg hob7=>?_);have hlO:=fun j (e:some j=_)=>(Own.lt hO5 (j:=j) e).1
   have hB7:=hB;have hB:=hB.step hg (fun i hi e=>by have:=hlO i e;omega);have hRw:=(hE.rowsC:RowsC BdC A w ((List.range env.length).map row) env);rw [← hr0] at hRw;have hR:=RowsC.carry hRw hB;obtain ⟨a7,c7,e7,-⟩:=own_shape hO7;rw [Nat.zero_add] at e7;subst e7;simp only [Nat.zero_add,List.nil_append] at hO7;refine L.val (x_as (v:=.slice _ _ _) rfl) rfl ?_;refine L.nil (thn_n (W.ret (fin_mk (.inr rfl) ?_)));exact ⟨⟨a7,c7,rows,rfl,hO7,hR⟩,hB⟩
set_option maxHeartbeats 1000000 in
theorem declare_ok (A0 B0:Nat→Prop) (env:List Bd) (self:Str) (d:De) (v:Value) (ds:List Value) (w:World) (hE0:BdsAt A0 w v env) (hd0:DeC B0 w ds d) (hl:env.length≤1000) (hself:self.length≤9223372036854775807):
    Ret Try.prog 20 #[v,S self,.agg ds.toArray] w fun v' w'=>(∃ u,v'=.tuple #[u,.int .i64 (decS env self d).2]∧BdsAt (fun k=>k<w.heap.size∧A0 k∧B0 k) w' u (decS env self d).1)∧Bel w w':=by
  obtain ⟨A,hE,hA,hAi⟩:∃ A1:Nat→Prop,BdsAt A1 w v env∧(∀ k,w.heap.size≤k→A1 k)∧(∀ k,A0 k→A1 k):=⟨_,hE0.up,fun _=>.inr,fun _=>.inl⟩;obtain ⟨B,hd,hB1,hBi⟩:∃ A1:Nat→Prop,DeC A1 w ds d∧(∀ k,w.heap.size≤k→A1 k)∧(∀ k,B0 k→A1 k):=⟨_,hd0.up,fun _=>.inr,fun _=>.inl⟩;obtain ⟨pv,capv,-,rfl,-⟩:=id hE;obtain ⟨rs,tl,e,hs,htl,hnm⟩:=id hd;subst e;have hrs:=hs.len;refine ret_of_W Try.func20 rfl (Nat.le_of_ble_eq_true rfl) (res2 rfl) ?_;have hB:=Gr.refl (fun _=>False) w;refine W.seq (W.region (L.box (cs:=.int .i64 d.kind :: S d.name :: (rs++tl)) rfl rfl (fun w5 bx5 hw hz5=>?_)));have hB:=hB.carry hw;have hE:=hE.carry hw;have hs:=hs.carry hw;refine L.val (x_as (v:=.slice _ _ _) rfl) rfl ?_;refine L.val (x_as (v:=.int _ _) rfl) rfl ?_;refine L.nil (thn_n (W.seq (W.region (L.val (x_mv (v:=.slice _ _ _) rfl) rfl ?_))));refine L.ret (x_call kexp5_en35 rfl) rfl (clone_bds A _ env _ hE om_) ?_;rintro _ w12 ⟨⟨a8,c8,rows,rfl,hO,hR⟩,hw⟩;have hB:=hB.carry hw;have hE:=hE.carry hw;have hs:=hs.carry hw;have bx5:=bx5.carry hw;have hq:∀ j,some j=(Value.slice a8 env.length c8).ownBlock→w5.heap.size≤j∧j<w12.heap.size:=fun j e=>Own.lt hO e
  have hsw12:=hw.size;have hsB5:=hB.size;refine L.val (x_as (v:=.slice _ _ _) rfl) rfl ?_;refine L.nil (thn_n (W.seq (W.seq (W.region (L.val (x_fa kexp5_fo49_0 rfl) rfl ?_)))));refine L.val (x_ld (v:=.int _ _) kexp5_oc3 rfl (bx5.cell0 rfl)) rfl ?_;refine L.val (x_neq rfl rfl) rfl ?_;refine L.val (x_mv (v:=.bool _) rfl) rfl ?_;refine' L.group0 3 17 19 19 16 true rfl ?_ ?_ ?_;rotate_left 1
  ·intro g16;have h16:=dne_t g16;refine L.gyes' (dj:=16) (b:=_) rfl rfl g16 ?_;refine L.val (x_fa kexp5_fo49_0 rfl) rfl ?_;refine L.gyes' (dj:=16) (b:=_) rfl rfl g16 ?_;refine L.val (x_ld (v:=.int _ _) kexp5_oc3 rfl (bx5.cell0 rfl)) rfl ?_;refine L.gyes' (dj:=16) (b:=_) rfl rfl g16 ?_;refine L.val (x_neq rfl rfl) rfl ?_;refine L.nil (thn_n ⟨rfl,rfl,?_,rfl⟩);repeat (first | exact jeq.refl _ _ _ | refine jeq.upd rfl ?_ | refine jeq.jk rfl rfl ?_)
  ·intro g16;(iterate 3 refine L.gno (dj:=16) (b:=_) rfl rfl g16 rfl ?_);refine L.nil (thn_n ⟨rfl,rfl,?_⟩);repeat (first | exact jeq.refl _ _ _ | refine jeq.upd rfl ?_ | refine jeq.jk rfl rfl ?_)
  intro J16 j16;refine L.val (x_and rfl j16) rfl ?_;refine L.nil (thn_n (W.cond (b:=_) rfl (fun g20=>?_) (fun g20=>?_)))
  ·have h20:=g20;have hno:d.kind≠1∧d.kind≠2:=by simpa using h20
   have e:decS env self d=(env,0):=by unfold decS;rw [if_pos hno]
   refine W.seq (W.region (L.val (x_mv (v:=.slice _ _ _) rfl) rfl ?_));refine L.val (x_as (v:=.slice _ _ _) rfl) rfl ?_;refine L.val (x_as (v:=.int _ _) rfl) rfl ?_;refine L.nil (thn_n (W.ret (thn_r (fin_mk (.inr rfl) ?_))));refine ⟨⟨_,by rw [e];rfl,?_⟩,hB⟩;rw [e];exact hR.doneB (A':=fun k=>k<w.heap.size∧A0 k∧B0 k) (base:=w5.heap.size) (e:=37) hO om_ (fun j h=>hAi j h.2.1) (fun j h1 h2=>by have:=hq j h1;omega)
  ·have h20:=g20;have hyes:¬ (d.kind≠1∧d.kind≠2):=by simpa using h20
   have hde:decS env self d=if (rsvS (findB env) d.sh).2≠0 then ([],(rsvS (findB env) d.sh).2) else (env++[⟨[],d.name,if d.kind=2 then .mk 10 self d.name [] [] else (rsvS (findB env) d.sh).1⟩],0):=by unfold decS;rw [if_neg hyes]
   refine W.skip (thn_n (W.seq (W.region (L.val (x_fa kexp5_fo49_2 rfl) rfl ?_))));refine L.val (x_ldn (vs:=rs) kexp5_ag25 rfl hrs (by have:=bx5.rowD 2 (k:=15) (by simp [hrs,htl]);exact fun j hj=>by rw [this j om_];show (rs++tl)[j]? = rs[j]?;rw [List.getElem?_append_left om_])) rfl ?_;refine L.val (x_mv (v:=.slice _ _ _) rfl) rfl ?_;refine L.ret (x_call kexp5_en11 rfl) rfl (resolve_ok _ _ d.sh env _ _ _ hs hE om_) ?_;rintro _ w26 ⟨cs26,rfl,h9,hw⟩;have hB:=hB.carry hw;have hE:=hE.carry hw;have hs:=hs.carry hw;have bx5:=bx5.carry hw;have hO:=hO.carry hw;have hR:=hR.carry hw;have hl9:=h9.len;have h9:=h9.up;have hsw26:=hw.size;have hx5:=bx5.lt;refine L.val (x_mv (v:=_) rfl) rfl ?_;refine L.val (x_ext (v:=_) rfl rfl) rfl ?_;refine L.val (x_ext (v:=.int _ _) rfl rfl) rfl ?_;refine L.alloc (cs:=[Value.int .i64 0,S [],S [],Value.slice none 0 0,Value.slice none 0 0]) kexp5_zr25 rfl rfl (fun w9 bx9 hw hz9=>?_);have hB:=hB.carry hw;have hE:=hE.carry hw;have hs:=hs.carry hw;have bx5:=bx5.carry hw;have hO:=hO.carry hw;have hR:=hR.carry hw;have h9:=h9.carry hw;refine L.setRow kexp5_ag25 rfl rfl bx9 rfl hl9 h9.one (fun wl26 bx9 hw hzl26=>?_);have hsz:=hB.size;have hB:=hB.set hw om_;have hE:=hE.carryR hw (fun j e=>hA j (by have e:j=_:=e;omega));have hs:=hs.carryR hw (fun j e=>hB1 j (by have e:j=_:=e;omega));have bx5:=bx5.carryR hw om_;have hO:=Own.carryR hO hw (fun j hj e=>by have e:j=_:=e;have h1:=hq j hj;omega);have hR:=hR.carryR hw (fun j e=>hA j (by have e:j=_:=e;omega));have h9:=h9.carryR hw (fun j e=>.inr (by have e:j=_:=e;omega));refine L.val (x_as (v:=.int _ _) rfl) rfl ?_;refine L.nil (thn_n (W.seq (W.seq (W.region (L.val (x_mv (v:=.int _ _) rfl) rfl ?_)))));refine L.val (x_neq rfl rfl) rfl ?_;refine L.nil (thn_n (W.cond (b:=_) rfl (fun g30=>?_) (fun g30=>?_)))
   ·have h30:=dne_t g30;have e:decS env self d=([],(rsvS (findB env) d.sh).2):=by rw [hde,if_pos h30]
    refine W.seq (W.region (L.val (x_mv (v:=.int _ _) rfl) rfl ?_));refine L.val (x_as (v:=.slice _ _ _) rfl) rfl ?_;refine L.val (x_as (v:=.int _ _) rfl) rfl ?_;refine L.nil (thn_n (W.ret (thn_r (fin_mk (.inr rfl) ?_))));exact ⟨⟨_,by rw [e];rfl,by rw [e];exact RecsAt.nil (by simp)⟩,hB⟩
   ·have h30:=dne_f g30;have hz0:(rsvS (findB env) d.sh).2=0:=by simpa using h30
    have hL:=Gr.refl (fun k=>k=w26.heap.size) wl26;have hsB26:=hB.size;have hx9:=bx9.lt;refine W.skip (thn_n (W.cut (fun D' E' w'=>D'=[]∧∃ (cs9:List Value) (s9:Sh),E' 5=.pointer (some ⟨w.heap.size,0,none⟩)∧E' 8=.slice a8 env.length c8∧E' 9=.pointer (some ⟨w26.heap.size,0,none⟩)∧s9=(if d.kind=2 then .mk 10 self d.name [] [] else (rsvS (findB env) d.sh).1)∧Gr (fun k=>k=w26.heap.size) wl26 w'∧Box w' w26.heap.size 25 cs9∧ShC (fun k=>k<w12.heap.size∧B k∧A k) w' cs9 s9) ?_ ?_))
    ·refine W.seq (W.region (L.val (x_fa kexp5_fo49_0 rfl) rfl ?_));refine L.val (x_ld (v:=.int _ _) kexp5_oc3 rfl (bx5.cell0 rfl)) rfl ?_;refine L.val (x_eql rfl rfl) rfl ?_;refine L.nil (thn_n (W.cond (b:=_) rfl (fun g34=>?_) (fun g34=>?_)))
     ·have h34:=of_decide_eq_true g34;refine W.region (L.val (x_mv (v:=S _) rfl) rfl ?_);refine L.val (x_fa kexp5_fo49_1 rfl) rfl ?_;refine L.val (x_ld (v:=S _) kexp5_oc9 rfl (bx5.cell0 rfl)) rfl ?_;refine L.val (x_build (cells:=[.int _ _,S _,S _,.slice _ _ _,.slice _ _ _]) kexp5_si25 rfl rfl) rfl ?_;refine L.setRow kexp5_ag25 rfl rfl bx9 hl9 rfl (by simp [Value.oneCell',S]) (fun wl40 bx9 hw hzl40=>?_);have hsz:=hB.size;have hB:=hB.set hw om_;have bx5:=bx5.carryR hw om_;have hO:=Own.carryR hO hw (fun j hj e=>by have e:j=_:=e;have h1:=hq j hj;omega);have hR:=hR.carryR hw (fun j e=>hA j (by have e:j=_:=e;omega));have hL:=hL.trans hw;refine L.nil (thn_n ?_);first
        | exact ⟨rfl,_,_,rfl,rfl,rfl,by rw [if_pos h34],hL,bx9,ShC.intro (StrsAt.nil _ _ _ _ (by simp)) (ShsAt.nil _ _ _ _ (by simp)) hself hnm⟩
        | exact ⟨rfl,_,_,rfl,rfl,rfl,by rw [if_neg h34],hL,bx9,h9.mono fun k _ h=>.inl h⟩
     ·have h34:=of_decide_eq_false g34;refine W.skip (thn_n ?_);first
        | exact ⟨rfl,_,_,rfl,rfl,rfl,by rw [if_pos h34],hL,bx9,ShC.intro (StrsAt.nil _ _ _ _ (by simp)) (ShsAt.nil _ _ _ _ (by simp)) hself hnm⟩
        | exact ⟨rfl,_,_,rfl,rfl,rfl,by rw [if_neg h34],hL,bx9,h9.mono fun k _ h=>.inl h⟩
    ·rintro D E w39 ⟨rfl,cs9,s9,e5,e8,e9,hs9,hL,bx9,h9⟩;rw [upd_self e5,upd_self e8,upd_self e9];have hB:=hB.set hL om_;have bx5:=bx5.carryR hL om_;have hO:=Own.carryR hO hL (fun j hj e=>by have e:j=_:=e;have h1:=hq j hj;omega);have hR:=hR.carryR hL (fun j e=>hA j (by have e:j=_:=e;omega));have hsL:=hL.size;have hl9:=h9.len;obtain ⟨vn9,vp9,e9c,hvn9,hvp9,ho9,hm9⟩:=h9.inv;obtain ⟨pn9,cn9,rfl,-⟩:=id hvn9;obtain ⟨pp9,cp9,-,rfl,-⟩:=id hvp9;subst e9c;refine W.seq (W.region (L.val (x_mv (v:=.slice _ _ _) rfl) rfl ?_));refine L.val (x_fa kexp5_fo49_1 rfl) rfl ?_;refine L.val (x_ld (v:=S _) kexp5_oc9 rfl (bx5.cell0 rfl)) rfl ?_;refine L.val (x_ldn (vs:=[.int .i64 s9.kind,S s9.of,S s9.name,.slice pn9 s9.names.length cn9,.slice pp9 s9.parts.length cp9]) kexp5_ag25 rfl rfl (bx9.row rfl)) rfl ?_;refine L.val (x_build (cells:=[S _,S _,.int _ _,S _,S _,.slice _ _ _,.slice _ _ _]) kexp5_si37 rfl rfl) rfl ?_;refine L.bs (sz:=7) (cells:=[S [],S d.name,.int .i64 s9.kind,S s9.of,S s9.name,.slice pn9 s9.names.length cn9,.slice pp9 s9.parts.length cp9]) Try.underlying26 kexp5_el37 rfl rfl rfl rfl (fun w44 bx44 hw hz44=>?_);have hB:=hB.carry hw;have hR:=hR.carry hw;have hO:=hO.carry hw;have h9:=h9.carry hw;have hsB45:=hB.size;have hone45:∀ u∈[S [],S d.name,.int .i64 s9.kind,S s9.of,S s9.name,.slice pn9 s9.names.length cn9,.slice pp9 s9.parts.length cp9],u.oneCell'=true:=by intro u hu;simp only [List.mem_cons,List.not_mem_nil,or_false] at hu;rcases hu with rfl | rfl | rfl | rfl | rfl | rfl | rfl <;> rfl
     refine L.appendN (m:=1) Try.underlying26 kexp5_el37 rfl rfl rfl hO rfl (holdsN_box bx44) hone45 om_ (by have:=hL.size;omega) (fun v45 w45 hO45 hg hob45=>?_);have hB:=hB.step hg (fun i hi e=>by have:=hq i e;omega);obtain ⟨a45,c45,e45,-⟩:=own_shape hO45;subst e45;have hb45:BdC (fun k=>k<w12.heap.size∧B k∧A k) w44 [S [],S d.name,.int .i64 s9.kind,S s9.of,S s9.name,.slice pn9 s9.names.length cn9,.slice pp9 s9.parts.length cp9] ⟨[],d.name,s9⟩:=⟨_,rfl,h9,by simp,hnm⟩;have r1:RowsC BdC (fun k=>k<w12.heap.size∧B k∧A k) w45 (rows++[[S [],S d.name,.int .i64 s9.kind,S s9.of,S s9.name,.slice pn9 s9.names.length cn9,.slice pp9 s9.parts.length cp9]]) (env++[⟨[],d.name,s9⟩]):=((hR.mono fun _ _ h=>h.2.2).append (RowsC.one hb45)).carryR hg (fun j e=>by have:=hq j e;exact ⟨this.2,hB1 _ om_,hA _ om_⟩);refine L.val (x_as (v:=.slice _ _ _) rfl) rfl ?_;refine L.val (x_as (v:=.int _ _) rfl) rfl ?_;refine L.nil (thn_n (W.ret (fin_mk (.inr rfl) ?_)));have e:decS env self d=(env++[⟨[],d.name,s9⟩],0):=by rw [hde,if_neg (by simpa using hz0),hs9]
     refine ⟨⟨_,by rw [e];rfl,?_⟩,hB⟩;rw [e];refine r1.doneB (A':=fun k=>k<w.heap.size∧A0 k∧B0 k) (base:=w5.heap.size) (e:=37) ?_ (by simp;omega) (fun j h=>⟨by omega,hBi j h.2.2,hAi j h.2.1⟩) (fun j h1 h2=>by have:=(Own.lt hO45 h1).1;omega);have e1:(env++[(⟨[],d.name,s9⟩:Bd)]).length=env.length+1:=by simp
     have e2:(rows++[[S [],S d.name,.int .i64 s9.kind,S s9.of,S s9.name,.slice pn9 s9.names.length cn9,.slice pp9 s9.parts.length cp9]]).flatten=rows.flatten++[S [],S d.name,.int .i64 s9.kind,S s9.of,S s9.name,.slice pn9 s9.names.length cn9,.slice pp9 s9.parts.length cp9]:=by simp
     rw [e1,e2];exact hO45
end Go.Gx
