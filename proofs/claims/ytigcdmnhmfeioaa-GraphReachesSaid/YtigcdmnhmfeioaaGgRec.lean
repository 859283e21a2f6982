/- Rows of things of several cells: read, grown, handed on. Conditions: none. -/
import Derived.Sort.Defs
import Derived.Shelf.Slices.Clone
import Derived.Shelf.Slices.CompactS
import Derived.Shelf.Slices.Delete
import Derived.Shelf.Slices.Empties
import Derived.Test.YtigcdmnhmfeioaaProg
import Derived.Shelf.Sort.Plain
import Derived.Shelf.Slices.In.SortNone
import Derived.Test.YtigcdmnhmfeioaaGgDef
import Derived.Test.YtigcdmnhmfeioaaGgRep
namespace Go.Gx
open Go.RowKit
abbrev Thing (α : Type):=(Nat→Prop)→World→List Value→α → Prop
class Car {α : Type} (C:Thing α) (k:outParam Nat):Prop where
  pos:0<k
  len:∀ {A:Nat→Prop} {w:World} {cs:List Value} {x:α},C A w cs x→cs.length=k
  one:∀ {A:Nat→Prop} {w:World} {cs:List Value} {x:α},C A w cs x→∀ v∈cs,v.oneCell'=true
  move:∀ {A A':Nat→Prop} {w w':World} {cs:List Value} {x:α},(∀ (a:Addr) v,¬ A a.block→w.cell? a=some v→w'.cell? a=some v∧¬ A' a.block)→C A w cs x→C A' w' cs x
section
variable {α : Type} {C:Thing α} {A A' R:Nat→Prop} {w w':World} {cs:List Value} {x:α}
theorem Car.carryR {k:Nat} [Car C k] (h:C A w cs x) (g:Gr R w w') (hR:∀ j,R j→A j):C A w' cs x:=Car.move (fun _ _ hA hv=>⟨g.cell hv (fun hr=>hA (hR _ hr)),hA⟩) h
theorem Car.carry {k:Nat} [Car C k] (h:C A w cs x) (g:Bel w w'):C A w' cs x:=Car.carryR h g (fun _ f=>f.elim)
theorem Car.mono {k:Nat} [Car C k] (h:C A w cs x) (hA:∀ b,b<w.heap.size→A' b→A b):C A' w cs x:=Car.move (fun _ _ hn hv=>⟨hv,fun h'=>hn (hA _ (World.block_lt_of_cell? w _ hv) h')⟩) h
theorem Car.up {k:Nat} [Car C k] (h:C A w cs x):C (fun j=>A j∨w.heap.size≤j) w cs x:=Car.mono h fun b hb h'=>h'.resolve_right om_
end
structure RecRow {α : Type} [Inhabited α] (C:Thing α) (k:Nat) (A:Nat→Prop) (w:World) (p:Option Addr) (row:Nat→List Value) (l:List α):Prop where
  at_:l≠[]→∃ b o,p=some ⟨b,o,none⟩∧¬ A b∧∀ i j,i<l.length→j<k→w.cell? ⟨b,o+i * k+j,none⟩=(row i)[j]?
  len:∀ i,i<l.length→(row i).length=k
  each:∀ i,i<l.length→C A w (row i) (l.getD i default)
def RecsAt {α : Type} [Inhabited α] (C:Thing α) (k:Nat) (A:Nat→Prop) (w:World) (v:Value) (l:List α):Prop:=
  ∃ p cap,∃ row:Nat→List Value,v=.slice p l.length cap∧l.length≤cap∧cap≤9223372036854775807∧l.length≤70368744177664∧RecRow C k A w p row l
section
variable {α : Type} [Inhabited α] {C:Thing α} {k:Nat} {A A' R:Nat→Prop} {w w':World} {p:Option Addr} {row:Nat→List Value} {l:List α} {v:Value}
theorem RecRow.elem (h:RecRow C k A w p row l) {i:Nat} (hi:i<l.length):∃ b o,p=some ⟨b,o,none⟩∧¬ A b∧∀ j,j<k→w.cell? ⟨b,o+i * k+j,none⟩=(row i)[j]? := by
  obtain ⟨b,o,hp,hA,hc⟩:=h.at_ (by rintro rfl;simp at hi);exact ⟨b,o,hp,hA,fun j hj=>hc i j hi hj⟩
theorem RecRow.elemAt {b o:Nat} (h:RecRow C k A w (some ⟨b,o,none⟩) row l) {i:Nat} (hi:i<l.length):∀ j,j<k→w.cell? ⟨b,o+i * k+j,none⟩=(row i)[j]? := by
  obtain ⟨b',o',e,-,hc⟩:=h.elem hi;simp only [Option.some.injEq,Addr.mk.injEq] at e;intro j hj;rw [e.1,e.2.1];exact hc j hj
theorem RecRow.cell {b o:Nat} (h:RecRow C k A w (some ⟨b,o,none⟩) row l) {i j:Nat} {u:Value} (hi:i<l.length) (hu:(row i)[j]? = some u):w.cell? ⟨b,o+i * k+j,none⟩=some u:=by
  have hj:=(List.getElem?_eq_some_iff.1 hu).1;rw [h.len i hi] at hj;rw [h.elemAt hi j hj,hu]
variable [Car C k]
theorem RecRow.move (hc:∀ (a:Addr) v,¬ A a.block→w.cell? a=some v→w'.cell? a=some v∧¬ A' a.block) (h:RecRow C k A w p row l):RecRow C k A' w' p row l:=by
  refine ⟨fun hne=>?_,h.len,fun i hi=>Car.move hc (h.each i hi)⟩;obtain ⟨b,o,e,hA,hcell⟩:=h.at_ hne;have h5:∀ i j,i<l.length→j<k→∃ v,(row i)[j]? = some v:=fun i j hi hj=>⟨_,List.getElem?_eq_getElem (by rw [h.len i hi];exact hj)⟩
  refine ⟨b,o,e,?_,fun i j hi hj=>?_⟩
  · have h0:0<l.length:=List.length_pos_iff.2 hne;have hk:0<k:=Car.pos C;obtain ⟨v,hv⟩:=h5 0 0 h0 hk;exact (hc ⟨b,o+0 * k+0,none⟩ v hA (by rw [hcell 0 0 h0 hk,hv])).2
  · obtain ⟨v,hv⟩:=h5 i j hi hj;rw [hv];exact (hc _ v hA (by rw [hcell i j hi hj,hv])).1
theorem RecRow.carryR (h:RecRow C k A w p row l) (g:Gr R w w') (hR:∀ j,R j→A j):RecRow C k A w' p row l:=h.move fun _ _ hA hv=>⟨g.cell hv (fun hr=>hA (hR _ hr)),hA⟩
theorem RecRow.carry (h:RecRow C k A w p row l) (g:Bel w w'):RecRow C k A w' p row l:=h.carryR g (fun _ f=>f.elim)
theorem RecRow.mono (h:RecRow C k A w p row l) (hA:∀ b,b<w.heap.size→A' b→A b):RecRow C k A' w p row l:=h.move fun _ _ hn hv=>⟨hv,fun h'=>hn (hA _ (World.block_lt_of_cell? w _ hv) h')⟩
theorem RecRow.up (h:RecRow C k A w p row l):RecRow C k (fun j=>A j∨w.heap.size≤j) w p row l:=h.mono fun b hb h'=>h'.resolve_right om_
theorem RecsAt.move (hc:∀ (a:Addr) v,¬ A a.block→w.cell? a=some v→w'.cell? a=some v∧¬ A' a.block) (h:RecsAt C k A w v l):RecsAt C k A' w' v l:=by
  obtain ⟨p,cap,row,e,h1,h2,h3,h4⟩:=h;exact ⟨p,cap,row,e,h1,h2,h3,h4.move hc⟩
theorem RecsAt.carryR (h:RecsAt C k A w v l) (g:Gr R w w') (hR:∀ j,R j→A j):RecsAt C k A w' v l:=h.move fun _ _ hA hv=>⟨g.cell hv (fun hr=>hA (hR _ hr)),hA⟩
theorem RecsAt.carry (h:RecsAt C k A w v l) (g:Bel w w'):RecsAt C k A w' v l:=h.carryR g (fun _ f=>f.elim)
theorem RecsAt.mono (h:RecsAt C k A w v l) (hA:∀ b,b<w.heap.size→A' b→A b):RecsAt C k A' w v l:=h.move fun _ _ hn hv=>⟨hv,fun h'=>hn (hA _ (World.block_lt_of_cell? w _ hv) h')⟩
theorem RecsAt.up (h:RecsAt C k A w v l):RecsAt C k (fun j=>A j∨w.heap.size≤j) w v l:=h.mono fun b hb h'=>h'.resolve_right om_
omit [Car C k] in
theorem RecsAt.nil {p:Option Addr} {cap:Nat} (hc:cap≤9223372036854775807):RecsAt C k A w (.slice p 0 cap) ([]:List α):=
  ⟨p,cap,fun _=>[],rfl,by simp,hc,by simp,⟨fun h=>absurd rfl h,fun i h=>absurd h (by simp),fun i h=>absurd h (by simp)⟩⟩
omit [Car C k] in
theorem RecsAt.one (h:RecsAt C k A w v l):v.oneCell'=true:=by obtain ⟨_,_,_,rfl,-⟩:=h;rfl
end
def RecOwn {α : Type} [Inhabited α] (C:Thing α) (k:Nat) (A:Nat→Prop) (w:World) (base:Nat) (e:TypeId) (v:Value) (l:List α):Prop:=
  ∃ rows:List (List Value),rows.length=l.length∧Own w base e k v l.length rows.flatten∧(∀ i,i<l.length→(rows.getD i []).length=k)∧∀ i,i<l.length→C A w (rows.getD i []) (l.getD i default)
theorem flatk {k:Nat} {rows:List (List Value)} (h:∀ r∈rows,r.length=k) {i j:Nat} (hj:j<k) (hi:i<rows.length):rows.flatten[i * k+j]? = (rows.getD i [])[j]? := by
  induction rows generalizing i with
  | nil=>simp at hi
  | cons r rows ih=>
    have hr:=h r (by simp);cases i with
    | zero=>simp [List.getElem?_append_left,hr,hj]
    | succ i=>
      have e:(i+1) * k+j=i * k+j+k:=by rw [Nat.add_mul,Nat.one_mul];omega
      rw [List.flatten_cons,List.getElem?_append_right (by rw [hr,e];omega),hr,e,Nat.add_sub_cancel,ih (fun r' h'=>h r' (by simp [h'])) (by simpa using hi)];simp
section
variable {α : Type} [Inhabited α] {C:Thing α} {k base:Nat} {e:TypeId} {A A' R:Nat→Prop} {w w':World} {l:List α} {v v':Value}
theorem RecOwn.nil:RecOwn C k A w base e (.slice none 0 0) ([]:List α):=⟨[],rfl,own_nil,fun i h=>absurd h (by simp),fun i h=>absurd h (by simp)⟩
theorem RecOwn.own (h:RecOwn C k A w base e v l):∃ xs,Own w base e k v l.length xs:=by
  obtain ⟨rows,-,ho,-⟩:=h;exact ⟨_,ho⟩
theorem RecOwn.lt (h:RecOwn C k A w base e v l) {j:Nat} (hj:some j=v.ownBlock):base≤j∧j<w.heap.size:=by
  obtain ⟨xs,ho⟩:=h.own;exact Own.lt ho hj
theorem RecOwn.one (h:RecOwn C k A w base e v l):v.oneCell'=true:=by obtain ⟨xs,ho⟩:=h.own;exact own_one ho
theorem RecOwn.shape (h:RecOwn C k A w base e v l):∃ a c,v=.slice a l.length c∧l.length≤c:=by obtain ⟨xs,ho⟩:=h.own;exact own_shape ho
variable [Car C k]
theorem RecOwn.carryA (h:RecOwn C k A w base e v l) (g:Gr R w w') (hR:∀ j,some j=v.ownBlock→¬ R j) (hRA:∀ j,R j→A j) (hA:∀ j,A' j→A j):RecOwn C k A' w' base e v l:=by
  obtain ⟨rows,h1,h2,h3,h4⟩:=h;exact ⟨rows,h1,Own.carryR h2 g hR,h3,fun i hi=>Car.mono (Car.carryR (h4 i hi) g hRA) fun j _ hj=>hA j hj⟩
theorem RecOwn.carry (h:RecOwn C k A w base e v l) (g:Bel w w'):RecOwn C k A w' base e v l:=h.carryA g (fun _ _ f=>f) (fun _ f=>f.elim) (fun _ h=>h)
theorem RecOwn.snoc {rows:List (List Value)} {cs:List Value} {t:α} (h1:rows.length=l.length) (h3:∀ i,i<l.length→(rows.getD i []).length=k) (h4:∀ i,i<l.length→C A w (rows.getD i []) (l.getD i default))
    (ht:C A w cs t) (ho:Own w' base e k v' (l.length+1) (rows.flatten++cs)) (g:Gr R w w') (hv:∀ j,R j→A j) (hA:∀ j,A' j→A j):RecOwn C k A' w' base e v' (l++[t]):=by
  refine ⟨rows++[cs],by simp [h1],?_,fun i hi=>?_,fun i hi=>?_⟩
  · have e1:(rows++[cs]).flatten=rows.flatten++cs:=by simp
    rw [e1,List.length_append];exact ho
  · rw [getD_snoc (by simpa [h1] using hi)];split
    · exact h3 i om_
    · exact Car.len ht
  · rw [getD_snoc (by simpa [h1] using hi),getD_snoc hi];by_cases hlt:i<l.length
    · rw [if_pos om_,if_pos hlt];exact Car.mono (Car.carryR (h4 i hlt) g hv) fun j _ hj=>hA j hj
    · rw [if_neg om_,if_neg hlt];exact Car.mono (Car.carryR ht g hv) fun j _ hj=>hA j hj
theorem RecOwn.done (h:RecOwn C k A w base e v l) (hl:l.length≤70368744177664) (hA:∀ j,A' j→A j) (hb:∀ j,base≤j→¬ A' j):RecsAt C k A' w v l:=by
  obtain ⟨rows,h1,h2,h3,h4⟩:=h;rcases Own.open h2 with ⟨rfl,hk,-⟩ | ⟨b,cap,tl,rfl,hbb,hcap,hcm,hbx⟩
  · have hn:l=[]:=List.eq_nil_of_length_eq_zero hk;subst hn;exact RecsAt.nil (by simp)
  · refine ⟨some ⟨b,0,none⟩,cap,fun i=>rows.getD i [],rfl,hcap,hcm,hl,⟨fun _=>⟨b,0,rfl,hb b hbb,fun i j hi hj=>?_⟩,h3,fun i hi=>Car.mono (h4 i hi) fun j _ hj=>hA j hj⟩⟩;have hr:∀ r∈rows,r.length=k:=fun r hr=>by
      obtain ⟨i,hi,rfl⟩:=List.getElem_of_mem hr;have:=h3 i om_
      rwa [List.getD_eq_getElem?_getD,List.getElem?_eq_getElem hi] at this
    have hf:=flatk hr hj (by omega:i<rows.length);have h5:(rows.getD i []).length=k:=h3 i hi;have hv:(rows.getD i [])[j]? = some ((rows.getD i [])[j]'om_):=List.getElem?_eq_getElem om_;show w.cell? ⟨b,0+i * k+j,none⟩=(rows.getD i [])[j]?;rw [hv] at hf ⊢;have hlt:i * k+j<rows.flatten.length:=(List.getElem?_eq_some_iff.1 hf).1;rw [Nat.zero_add];exact hbx.cell (by rw [List.getElem?_append_left hlt];exact hf)
omit [Car C k] in
end
end Go.Gx
namespace Go.Gx
open Go.ChangeShapes Go.WideShapes Go.Deep Go.RowKit
section
variable {H:Type} {enc:TypeId × Value→H} {P:Program}
def OAll (O:TypeId→World→Value→Prop) (W:World):List TypeId→List Value→Prop
  | [],[]=>True
  | t :: ts,v :: vs=>O t W v∧OAll O W ts vs
  | _,_=>False
theorem o_args {O:TypeId→World→Value→Prop} {W:World} {base:Nat}:∀ {ts:List TypeId} {vs:List Value} {ds:List (DataW H)} {ps:List MemPlace},
    (∀ t∈ts,∀ (v:Value) (d:DataW H) (p:List MemPlace),Value.okWide P W .any base t v→DataW.Trod enc P W 0 (fun _=>true) true t v d p→(d.weights P t).all (· ≤ reachBytes)=true→O t W v)→
    (∀ (j:Nat) v t,vs[j]? = some v→ts[j]? = some t→Value.okWide P W .any base t v)→DataW.TrodAll enc P W 0 (fun _=>true) true ts vs ds ps→
    (DataW.weightsEach P ts ds).all (· ≤ reachBytes)=true→OAll O W ts vs∧ds.length=ts.length
  | [],vs,ds,ps,_,_,h,_=>by
    obtain ⟨rfl,rfl,rfl⟩:=trodAll_nil h;exact ⟨trivial,rfl⟩
  | t :: ts,vs,ds,ps,hO,hv,h,hw=>by
    obtain ⟨v,vs,d,ds,a,b,rfl,rfl,rfl,h1,h2⟩:=trodAll_cons h;rw [DataW.weightsEach,List.all_append,Bool.and_eq_true] at hw;obtain ⟨e1,e2⟩:=o_args (fun t ht=>hO t (by simp [ht])) (fun j v t hj ht=>hv (j+1) v t hj ht) h2 hw.2;exact ⟨⟨hO t (by simp) v d a (hv 0 v t rfl rfl) h1 hw.1,e1⟩,by simp [e2]⟩
theorem lifted_of {C:Checked} {os:Os} {f:FuncId} {fn:Func} {s:ChangeSpec} {conds:List PathCond} {apart fresh handsOn again:Bool} {ts:List TypeId} {tb:TypeId} (O:TypeId→World→Value→Prop)
    (hps:fn.params.toList=ts) (hv:s.vars=[]) (hres:fn.resultTypes=#[tb]) (hb:C.prog.underlying tb=some .bool)
    (hl:laidOutB C.prog=true) (hrd:∀ t∈ts,C.prog.readableRec t=true∧t<C.prog.types.size)
    (hs:∀ ds:List (DataW H),ds.length=ts.length→s.fn H ds={ results:=[.lit (.bool true)],args:=ds })
    (own:ownKnob C.prog.godebug=none) (started:os.Started) (noInit:C.prog.inits.idxOf? f=none) (hfn:C.prog.funcs[f]? = some fn)
    (witness:∃ (w:World) (tape:Tape) (i:Input),w.os=os∧(w.forCall tape i).Shaped C.prog∧i.vars=[]∧Input.okWide C.prog (w.forCall tape i) .any w.heap.size f i∧
      s.pre6 enc C.prog fn conds apart (w.forCall tape i).memory i.args∧({}:Assume).holds C.prog (lone (Frame.enter C.prog f i.args .normal) [] (w.forCall tape i)))
    (hO:∀ t∈ts,∀ (W:World) (base:Nat) (v:Value) (d:DataW H) (p:List MemPlace),Value.okWide C.prog W .any base t v→DataW.Trod enc C.prog W 0 (fun _=>true) true t v d p→(d.weights C.prog t).all (· ≤ reachBytes)=true→O t W v)
    (contract:∀ (w:World) (vs:List Value),OAll O w ts vs→Ret C.prog f vs.toArray w fun v w'=>v=.bool true∧Bel w w'):
    ReturnsInHanded {} C os f .any (s.pre6 enc C.prog fn conds apart) (s.post enc C.prog fn apart fresh handsOn again):=by
  refine returnsInHanded_of_change_sized own started noInit hfn witness ?_;intro W base args ds gs before hval hW _ hwt _;obtain ⟨p,q,hA,hV,rfl,hz,hn⟩:=id hW;have hV':=hV;rw [hv] at hV';obtain ⟨rfl,rfl⟩:=trodVars_none hV';rw [hps] at hA;have hvt:s.plain.varTypes C.prog=[]:=by
    have:s.plain.vars=[]:=hv;simp [DataSpec.varTypes,this]
  rw [hvt,List.append_nil,List.append_nil,hps] at hwt;obtain ⟨e1,e2⟩:=o_args (O:=O) (base:=base) (fun t ht v d p=>hO t ht W base v d p) (fun j v t hj ht=>hval j t v (by rw [← hps] at ht;simpa using ht) (by simpa using hj)) hA hwt;have hr:=contract W args.toList e1;rw [Array.toArray_toList] at hr;refine Calls.mono hr fun e w' ⟨v,he,hv',hB⟩=>⟨v,he,?_⟩
  subst hv';exact post_of_bel hl (fun t ht=>by rw [hps] at ht;exact hrd t ht) hv hres hb hW (by rw [List.append_nil];exact hs ds e2) hB
variable {w:World} {base:Nat} {spare:Nat→Bool} {held:Bool}
theorem recs_open {α : Type} [Inhabited α] {Cc:Thing α} {k:Nat} {tS tE:TypeId} (ht:P.underlying tS=some (.slice tE)) (hc:P.cellsOf tE=k) (hk:0<k) (hb:2≤P.bytesOf tE)
    (hopen:∀ (fuel:Nat) (cs:List Value) (x:DataW H × List MemPlace),DataW.trod enc P w base spare held fuel tE cs=some x→(x.1.weights P tE).all (· ≤ reachBytes)=true→∃ s,Cc (fun _=>False) w cs s)
    {fuel:Nat} {v:Value} {x:DataW H × List MemPlace} (h:DataW.trod enc P w base spare held fuel tS [v]=some x) (hw:(x.1.weights P tS).all (· ≤ reachBytes)=true):∃ l:List α,RecsAt Cc k (fun _=>False) w v l:=by
  rcases DataW.trod_slice ht (x:=x) h with ⟨h1,rfl⟩ | ⟨a,len,cap,elems,rest,n',hn',h1,rfl,-,hl,hm,hel,hx,-,-⟩
  · simp at h1;exact ⟨[],h1 ▸ RecsAt.nil (by simp)⟩
  · simp at h1;subst h1;obtain ⟨hby,hwd⟩:=weights_slice ht hw;have hlen:len≤70368744177664:=by
      have h1:len * P.bytesOf tE≤reachBytes:=Nat.le_trans (Nat.mul_le_mul_right _ (by simp [hel])) hby;have h2:len * 2≤len * P.bytesOf tE:=Nat.mul_le_mul_left _ hb;have h3:=reachBytes_lt;omega
    have each:∀ i,i<len→∃ p:List Value × α,p.1.length=k∧(∀ j,j<k→w.cell? ((a.add (i * k)).add j)=p.1[j]?)∧Cc (fun _=>False) w p.1 p.2:=fun i hi=>by
      have h0:=hx i hi;rw [List.getElem?_eq_getElem om_] at h0;obtain ⟨cs',h1,h2⟩:=Option.bind_eq_some_iff.1 h0;rw [hc] at h1;obtain ⟨-,h3,h4⟩:=World.cells?_some h1;obtain ⟨s,hs⟩:=hopen n' cs' _ h2 (hwd _ (List.mem_map_of_mem (List.getElem_mem _)));exact ⟨(cs',s),h3,h4,hs⟩
    obtain ⟨F,hF⟩:=choose_lt (α := List Value × α) each;have e0:((List.range len).map fun i=>(F i).2).length=len:=by simp
    refine ⟨(List.range len).map fun i=>(F i).2,some a,cap,fun i=>(F i).1,by rw [e0],by rw [e0];exact hl,hm,by rw [e0];exact hlen,?_⟩;refine ⟨fun hne=>?_,fun i hi=>(hF i (by rw [e0] at hi;exact hi)).1,fun i hi=>?_⟩
    · have h0:0<len:=by rcases Nat.eq_zero_or_pos len with h | h;exact absurd (by rw [h];rfl) hne;exact h
      obtain ⟨q1,q2,-⟩:=hF 0 h0;have hc0:=q2 0 hk;rw [List.getElem?_eq_getElem om_] at hc0;obtain ⟨b,o,spot⟩:=a;have hspot:spot=none:=by simpa [Addr.add] using World.cell?_spot hc0
      subst hspot;refine ⟨b,o,rfl,fun f=>f,fun i j hi hj=>?_⟩;rw [e0] at hi;have:=(hF i hi).2.1 j hj;rw [add_plain,add_plain] at this;exact this
    · rw [e0] at hi;have:=(hF i hi).2.2;simpa [hi] using this
theorem recs_arg {α : Type} [Inhabited α] {Cc:Thing α} {k:Nat} {tS tE:TypeId} (ht:P.underlying tS=some (.slice tE)) (hc:P.cellsOf tE=k) (hk:0<k) (hb:2≤P.bytesOf tE)
    (hopen:∀ (fuel:Nat) (cs:List Value) (x:DataW H × List MemPlace),DataW.trod enc P w 0 (fun _=>true) true fuel tE cs=some x→(x.1.weights P tE).all (· ≤ reachBytes)=true→∃ s,Cc (fun _=>False) w cs s)
    {b:Nat} {v:Value} {d:DataW H} {p:List MemPlace} (hv:Value.okWide P w .any b tS v) (h:DataW.Trod enc P w 0 (fun _=>true) true tS v d p) (hw:(d.weights P tS).all (· ≤ reachBytes)=true):∃ l:List α,RecsAt Cc k (fun _=>False) w v l:=by
  obtain ⟨fuel,h⟩:=h;have hcells:v.cells.toList=[v]:=by
    unfold Value.okWide at hv;rw [ht] at hv;cases v <;> simp_all [Value.cells,Cell.okWide,Cell.ok]
  rw [hcells] at h;exact recs_open ht hc hk hb hopen h hw
end
end Go.Gx
namespace Go.Gx
open Go.Sort
theorem lt_irr (x:Str):ltStr x x=false:=by
  unfold ltStr;exact decide_eq_false (List.lt_irrefl x)
theorem lt_tr {x y z:Str} (h1:ltStr x y=true) (h2:ltStr y z=true):ltStr x z=true:=by
  unfold ltStr at *;exact decide_eq_true (List.lt_trans (of_decide_eq_true h1) (of_decide_eq_true h2))
theorem lt_as {x y:Str} (h1:ltStr x y=true):ltStr y x=false:=by
  unfold ltStr at *;exact decide_eq_false (List.lt_asymm (of_decide_eq_true h1))
theorem lt_tot {x y:Str} (h1:ltStr x y=false) (h2:x≠y):ltStr y x=true:=by
  unfold ltStr at *;have h:=of_decide_eq_false h1;rcases Decidable.em (y<x) with h3 | h3
  · exact decide_eq_true h3
  · exact absurd (List.le_antisymm (List.not_lt.1 h3) (List.not_lt.1 h)) h2
structure Ed where
  key:Str
  val:Str
  gone:Bool
deriving DecidableEq
instance:Inhabited Ed:=⟨⟨[],[],false⟩⟩
structure Sx where
  opn:Bool
  at_:Nat
  eds:List Ed
  gets:List Str
  heads:List Str
instance:Inhabited Sx:=⟨⟨false,0,[],[],[]⟩⟩
structure Bs where
  first:List Ed
  log:List (List Ed)
  all:List Sx
def Bs.isOpen (b:Bs) (id:Int):Prop:=1≤id∧id≤b.all.length∧(b.all.getD (id.toNat - 1) default).opn=true
instance {b:Bs} {id:Int}:Decidable (b.isOpen id):=by unfold Bs.isOpen;infer_instance
def Bs.upd (b:Bs) (id:Int) (s:Sx):Bs:={ b with all:=b.all.set (id.toNat - 1) s }
end Go.Gx
namespace Go.Gx
open Go.Sort
abbrev Strict (l:List Str):Prop:=l.Pairwise (fun a b=>ltStr a b=true)
theorem strict_nil:Strict []:=List.Pairwise.nil
theorem Strict.nodup {l:List Str} (h:Strict l):l.Nodup:=h.imp fun {a b} hab e=>by rw [e,lt_irr] at hab;cases hab
theorem strict_eq:∀ {l m:List Str},Strict l→Strict m→(∀ x,x∈l↔x∈m)→l=m
  | [],[],_,_,_=>rfl
  | [],y :: m,_,_,h=>by have:=(h y).2 (by simp);cases this
  | x :: l,[],_,_,h=>by have:=(h x).1 (by simp);cases this
  | x :: l,y :: m,hl,hm,h=>by
    rw [Strict,List.pairwise_cons] at hl hm;have e:x=y:=by
      rcases List.mem_cons.1 ((h x).1 (by simp)) with e | hx
      · exact e
      · rcases List.mem_cons.1 ((h y).2 (by simp)) with e | hy
        · exact e.symm
        · have h1:=hm.1 x hx;have h2:=hl.1 y hy;rw [lt_as h1] at h2;cases h2
    subst e;rw [strict_eq hl.2 hm.2 fun z=>?_];have hz:=h z;constructor
    · intro hm1;rcases List.mem_cons.1 (hz.1 (List.mem_cons_of_mem _ hm1)) with e | h1
      · rw [e] at hm1;have:=hl.1 _ hm1;rw [lt_irr] at this;cases this
      · exact h1
    · intro hm1;rcases List.mem_cons.1 (hz.2 (List.mem_cons_of_mem _ hm1)) with e | h1
      · rw [e] at hm1;have:=hm.1 _ hm1;rw [lt_irr] at this;cases this
      · exact h1
def addL:List Str→Str→List Str
  | [],x=>[x]
  | y :: l,x=>if ltStr y x then y :: addL l x else if y=x then y :: l else x :: y :: l
def onceL (l:List Str):List Str:=l.foldl addL []
theorem mem_addL {z x:Str}:∀ {l:List Str},z∈addL l x↔z=x∨z∈l
  | []=>by simp [addL]
  | y :: l=>by
    rw [addL];split
    · rw [List.mem_cons,mem_addL (l:=l),List.mem_cons];constructor
      · rintro (h | h | h) <;> simp [h]
      · rintro (h | h | h) <;> simp [h]
    · split
      · rename_i h;subst h
        rw [List.mem_cons];constructor
        · exact fun h=>.inr h
        · rintro (h | h)
          · exact .inl h
          · exact h
      · rw [List.mem_cons]
theorem strict_addL {x:Str}:∀ {l:List Str},Strict l→Strict (addL l x)
  | [],_=>by simp [addL,Strict]
  | y :: l,h=>by
    rw [addL];have h2:=h;rw [Strict,List.pairwise_cons] at h2;split
    · rename_i hyx
      rw [Strict,List.pairwise_cons];refine ⟨fun z hz=>?_,strict_addL h2.2⟩;rcases mem_addL.1 hz with e | hz
      · rw [e];exact hyx
      · exact h2.1 z hz
    · split
      · exact h
      · rename_i h3 h4
        have hxy:=lt_tot (by simpa using h3) h4;rw [Strict,List.pairwise_cons];refine ⟨fun z hz=>?_,h⟩;rcases List.mem_cons.1 hz with e | hz
        · rw [e];exact hxy
        · exact lt_tr hxy (h2.1 z hz)
theorem addL_foldl {l m:List Str} (hm:Strict m):Strict (l.foldl addL m)∧∀ z,z∈l.foldl addL m↔z∈l∨z∈m:=by
  induction l generalizing m with
  | nil=>exact ⟨hm,fun z=>by simp⟩
  | cons x l ih=>
    rw [List.foldl_cons];obtain ⟨h1,h2⟩:=ih (strict_addL (x:=x) hm);refine ⟨h1,fun z=>?_⟩;rw [h2 z,mem_addL,List.mem_cons];constructor
    · rintro (h | h | h) <;> simp [h]
    · rintro ((h | h) | h) <;> simp [h]
theorem strict_once (l:List Str):Strict (onceL l):=(addL_foldl strict_nil).1
theorem mem_once {l:List Str} {z:Str}:z∈onceL l↔z∈l:=by
  have:=(addL_foldl (l:=l) strict_nil).2 z;simpa [onceL] using this
theorem once_eq {l m:List Str} (hm:Strict m) (h:∀ x,x∈m↔x∈l):m=onceL l:=strict_eq hm (strict_once l) fun x=>by rw [h,mem_once]
theorem onceL_take {l:List Str} {i:Nat} (h:i<l.length):onceL (l.take (i+1))=addL (onceL (l.take i)) (l.getD i []):=by
  unfold onceL;rw [List.take_succ_eq_append_getElem h,List.foldl_append,List.getD_eq_getElem?_getD,List.getElem?_eq_getElem h];rfl
theorem addL_at {x:Str}:∀ {l:List Str} {k:Nat},k≤l.length→(∀ j,j<k→ltStr (l.getD j []) x=true)→(k<l.length→ltStr (l.getD k []) x=false)→addL l x=if k<l.length∧l.getD k []=x then l else l.take k++[x]++l.drop k
  | [],k,hk,_,_=>by
    have:k=0:=by simpa using hk
    subst this;simp [addL]
  | y :: l,0,_,_,h0=>by
    have h0:=h0 (by simp);have h0:ltStr y x=false:=h0;rw [addL,if_neg (by rw [h0];simp)];by_cases e:y=x
    · rw [if_pos e,if_pos ⟨by simp,e⟩]
    · rw [if_neg e,if_neg (fun h=>e h.2)];rfl
  | y :: l,k+1,hk,hlt,h0=>by
    have h1:ltStr y x=true:=hlt 0 om_;have ih:=addL_at (x:=x) (l:=l) (k:=k) (by simpa using hk) (fun j hj=>hlt (j+1) om_) (fun h=>h0 (by simpa using h));rw [addL,if_pos h1,ih];have e1:(k+1<(y :: l).length∧(y :: l).getD (k+1) []=x)↔(k<l.length∧l.getD k []=x):=by simp
    by_cases e:k<l.length∧l.getD k []=x
    · rw [if_pos e,if_pos (e1.2 e)]
    · rw [if_neg e,if_neg (fun h=>e (e1.1 h))];rfl
abbrev Arc:=Str × Str
def tosL (l:List Arc) (n:Str):List Str:=(l.filter fun a=>a.1 == n).map (·.2)
def nextS (l:List Arc) (n:Str):List Str:=onceL (tosL l n)
theorem mem_tos {l:List Arc} {n z:Str}:z∈tosL l n↔(n,z)∈l:=by
  unfold tosL;rw [List.mem_map];constructor
  · rintro ⟨a,ha,rfl⟩;rw [List.mem_filter,beq_iff_eq] at ha;rw [← ha.2];exact ha.1
  · intro h;exact ⟨(n,z),List.mem_filter.2 ⟨h,by simp⟩,rfl⟩
theorem mem_next {l:List Arc} {n z:Str}:z∈nextS l n↔(n,z)∈l:=by unfold nextS;rw [mem_once,mem_tos]
theorem strict_len_le {l m:List Str} (hl:l.Nodup) (h:∀ x∈l,x∈m):l.length≤m.length:=by
  induction l generalizing m with
  | nil=>exact Nat.zero_le _
  | cons x l ih=>
    rw [List.nodup_cons] at hl;have hx:=h x (by simp);have:=ih hl.2 (m:=m.erase x) (fun y hy=>(List.mem_erase_of_ne (fun e=>by rw [e] at hy;exact hl.1 hy)).2 (h y (List.mem_cons_of_mem _ hy)));rw [List.length_erase_of_mem hx] at this;have:=List.length_pos_of_mem hx;rw [List.length_cons];omega
theorem next_len (l:List Arc) (n:Str):(nextS l n).length≤(tosL l n).length:=strict_len_le (strict_once _).nodup fun x hx=>mem_once.1 hx
inductive Rch (l:List Arc) (from_:List Str):Str→Prop
  | base {x}:x∈from_→Rch l from_ x
  | step {x y}:Rch l from_ x→(x,y)∈l→Rch l from_ y
open Classical in
noncomputable def reachS (l:List Arc) (from_:List Str):List Str:=(onceL (from_++l.map (·.2))).filter fun x=>decide (Rch l from_ x)
theorem rch_uni {l:List Arc} {f:List Str} {x:Str} (h:Rch l f x):x∈f++l.map (·.2):=by
  cases h with
  | base h=>exact List.mem_append.2 (.inl h)
  | step _ h=>exact List.mem_append.2 (.inr (List.mem_map.2 ⟨_,h,rfl⟩))
theorem mem_reach {l:List Arc} {f:List Str} {x:Str}:x∈reachS l f↔Rch l f x:=by
  unfold reachS;rw [List.mem_filter,mem_once];constructor
  · exact fun h=>by simpa using h.2
  · exact fun h=>⟨rch_uni h,by simpa using h⟩
theorem strict_reach (l:List Arc) (f:List Str):Strict (reachS l f):=(strict_once _).filter _
theorem reach_eq {l:List Arc} {f L:List Str} (hs:Strict L) (hf:∀ x∈f,x∈L) (hc:∀ a∈l,a.1∈L→a.2∈L) (hr:∀ x∈L,Rch l f x):L=reachS l f:=
  strict_eq hs (strict_reach l f) fun x=>by
    rw [mem_reach];refine ⟨hr x,fun h=>?_⟩;induction h with
    | base h=>exact hf _ h
    | step _ h ih=>exact hc _ h ih
theorem reach_len (l:List Arc) (f:List Str):(reachS l f).length≤f.length+l.length:=by
  have:=strict_len_le (strict_reach l f).nodup (m:=f++l.map (·.2)) fun x hx=>rch_uni (mem_reach.1 hx)
  rw [List.length_append,List.length_map] at this;exact this
def countL (all:List Str) (l:List Arc):List Arc:=l.filter fun a=>all.contains a.1 && all.contains a.2
theorem mem_count {all:List Str} {l:List Arc} {a:Arc}:a∈countL all l↔a∈l∧a.1∈all∧a.2∈all:=by
  unfold countL;rw [List.mem_filter,Bool.and_eq_true,List.contains_iff_mem,List.contains_iff_mem]
def readyL (l:List Arc) (n:Str) (done:List Str):Bool:=l.all fun a=>!(a.1 == n) || done.contains a.2
theorem ready_next {l:List Arc} {n:Str} {done:List Str}:readyL l n done=(nextS l n).all fun x=>done.contains x:=by
  rw [Bool.eq_iff_iff];unfold readyL;rw [List.all_eq_true,List.all_eq_true];constructor
  · intro h x hx;have:=h _ (mem_next.1 hx);simpa using this
  · intro h a ha;by_cases e:a.1=n
    · have:=h a.2 (mem_next.2 (by rw [← e];exact ha));rw [this];simp
    · simp [e]
end Go.Gx
namespace Go.Proofs
open Go.Shelf
def Try.laysNm216_ren:Go.Shelf.Ren:=⟨fun | 16=>25 | n=>n,fun | 24=>23 | 9=>9 | 4=>4 | n=>n,fun | n=>n⟩
theorem Try.laysNm216:Go.Proofs.Lays2.n16 Try.prog Try.laysNm216_ren:={
  mixed:=by kernel_rfl
  f16:=Try.func25.trans (congrArg some (by kernel_rfl))
  t4:=Try.underlying4
  a4:=Try.isAgg4
  z4:=Try.sizeOf4
  v4:=Try.zeroValue4
  t9:=Try.underlying9
  a9:=Try.isAgg9
  z9:=Try.sizeOf9
  v9:=Try.zeroValue9
  t24:=Try.underlying23
  a24:=Try.isAgg23
  z24:=Try.sizeOf23
  v24:=Try.zeroValue23
  i9:=by kernel_rfl }
open Go.RowKit Go.Lib in
theorem Try.slices_Clone_string (b off n c:Nat) (zs:List ByteArray) (w:World) (hz:n≤zs.length) (hbig:n * 16≤140737488355328) (hc:∀ j,j<zs.length→w.cell? ⟨b,off+j,none⟩=some (.string (zs.getD j ByteArray.empty))):
    Calls Try.prog 25 #[.slice (some ⟨b,off,none⟩) n c] w fun e w'=>∃ v',e=.returned v'∧w'.ownsRow w.heap.size 9 1 v' n ((zs.take n).map (Value.string))∧v'≠.slice none 0 0∧Below w.heap.size w w':=Any.slices_Clone_string Try.laysNm216 b off n c zs w hz hbig hc
open Go.RowKit Go.Lib in
theorem Try.slices_Clone_string_nil (n c:Nat) (w:World):
    Calls Try.prog 25 #[.slice none n c] w fun e w'=>e=.returned (.slice none 0 0)∧w'=w:=Any.slices_Clone_string_nil Try.laysNm216 n c w
open Go.RowKit Go.Lib in
theorem Try.slices_Clone_string_zero (a:Addr) (c:Nat) (w:World):
    Calls Try.prog 25 #[.slice (some a) 0 c] w fun e w'=>∃ v',e=.returned v'∧w'.ownsRow w.heap.size 9 1 v' 0 []∧v'≠.slice none 0 0∧Below w.heap.size w w':=Any.slices_Clone_string_zero Try.laysNm216 a c w
def Try.lays194_ren:Go.Shelf.Ren:=⟨fun | 194=>47 | n=>n,fun | 31=>23 | 9=>9 | 3=>3 | 4=>4 | 0=>0 | n=>n,fun | n=>n⟩
theorem Try.lays194:Go.Proofs.Lays.n194 Try.prog Try.lays194_ren:={
  mixed:=by kernel_rfl
  f194:=Try.func47.trans (congrArg some (by kernel_rfl))
  t0:=Try.underlying0
  a0:=Try.isAgg0
  z0:=Try.sizeOf0
  v0:=Try.zeroValue0
  t3:=Try.underlying3
  a3:=Try.isAgg3
  z3:=Try.sizeOf3
  v3:=Try.zeroValue3
  t4:=Try.underlying4
  a4:=Try.isAgg4
  z4:=Try.sizeOf4
  v4:=Try.zeroValue4
  t9:=Try.underlying9
  a9:=Try.isAgg9
  z9:=Try.sizeOf9
  v9:=Try.zeroValue9
  t31:=Try.underlying23
  a31:=Try.isAgg23
  z31:=Try.sizeOf23
  v31:=Try.zeroValue23 }
open Go.RowKit Go.Lib Go.Sort in
theorem Try.slices_Compact_string (blk off cap:Nat) (zs:List (List UInt8)) (w:World) (hH:Holds encStr w blk off zs.toArray) (hsz:zs.length≤9223372036854775807) (hcap:zs.length≤cap):
    Calls Try.prog 47 #[.slice (some ⟨blk,off,none⟩) zs.length cap] w fun e w'=>e=.returned (.slice (some ⟨blk,off,none⟩) (Lib.compact zs).length cap)∧∃ q,w'=putRow encStr (Sort.ahead w q) blk off (Lib.compact zs++List.replicate (zs.length - (Lib.compact zs).length) []).toArray:=Any.slices_Compact_string Try.lays194 blk off cap zs w hH hsz hcap
open Go.RowKit Go.Lib Go.Sort in
theorem Try.slices_Compact_string_empty (a:Option Addr) (cap:Nat) (w:World):
    Calls Try.prog 47 #[.slice a 0 cap] w fun e w'=>e=.returned (.slice a 0 cap)∧w'=w:=Any.slices_Compact_string_empty Try.lays194 a cap w
def Try.laysNm224_ren:Go.Shelf.Ren:=⟨fun | 24=>41 | n=>n,fun | 24=>23 | 9=>9 | 3=>3 | 4=>4 | 0=>0 | n=>n,fun | n=>n⟩
theorem Try.laysNm224:Go.Proofs.Lays2.n24 Try.prog Try.laysNm224_ren:={
  mixed:=by kernel_rfl
  f24:=Try.func41.trans (congrArg some (by kernel_rfl))
  t0:=Try.underlying0
  a0:=Try.isAgg0
  z0:=Try.sizeOf0
  v0:=Try.zeroValue0
  t3:=Try.underlying3
  a3:=Try.isAgg3
  z3:=Try.sizeOf3
  v3:=Try.zeroValue3
  t4:=Try.underlying4
  a4:=Try.isAgg4
  z4:=Try.sizeOf4
  v4:=Try.zeroValue4
  t9:=Try.underlying9
  a9:=Try.isAgg9
  z9:=Try.sizeOf9
  v9:=Try.zeroValue9
  t24:=Try.underlying23
  a24:=Try.isAgg23
  z24:=Try.sizeOf23
  v24:=Try.zeroValue23
  i9:=by kernel_rfl }
open Go.RowKit Go.Lib Go.Sort in
theorem Try.slices_Delete_string (blk off cap i j:Nat) (zs:List (List UInt8)) (w:World) (hH:Holds encStr w blk off zs.toArray) (hcap:zs.length≤cap) (hm:cap≤9223372036854775807) (hij:i≤j) (hj:j≤zs.length):
    Calls Try.prog 41 #[.slice (some ⟨blk,off,none⟩) zs.length cap,.int .i64 i,.int .i64 j] w fun e w'=>e=.returned (.slice (some ⟨blk,off,none⟩) (zs.length - (j - i)) cap)∧∃ q,w'=putRow encStr (Sort.ahead w q) blk off (zs.take i++zs.drop j++List.replicate (j - i) []).toArray:=Any.slices_Delete_string Try.laysNm224 blk off cap i j zs w hH hcap hm hij hj
end Go.Proofs
namespace Go.Gx
open Go.Proofs
mutual
def Sh.size:Sh→Nat | .mk _ _ _ _ ps=>1+sizeL ps
def sizeL:List Sh→Nat | []=>0 | p :: ps=>p.size+sizeL ps
end
def nodup:List Str→Bool
  | []=>true
  | x :: l=>!l.contains x && nodup l
theorem take_snoc {α : Type} [Inhabited α] {l:List α} {k:Nat} {d:α} (hk:k<l.length):l.take (k+1)=l.take k++[l.getD k d]:=by
  rw [List.take_succ_eq_append_getElem hk,List.getD_eq_getElem?_getD,List.getElem?_eq_getElem hk,Option.getD_some]
end Go.Gx
namespace Go.Gx
open Go.Proofs
theorem kcoll_el9:elT Try.prog 9 1=true:=by kernel_rfl
theorem kcoll_oc23:oneCellT Try.prog 23=true:=by kernel_rfl
theorem kcoll_oc9:oneCellT Try.prog 9=true:=by kernel_rfl
theorem kcoll_sz23:(Try.prog.info? 23).map (·.size)=some 1:=by kernel_rfl
theorem kcoll_sz9:(Try.prog.info? 9).map (·.size)=some 1:=by kernel_rfl
theorem gr_of_below {n₀ : Nat} {a b:World} (h:RowKit.Below n₀ a b):Gr (fun k=>n₀ ≤ k) a b:=⟨h.os,h.tape,h.output,h.size,fun k _ hn=>h.block k om_⟩
theorem vals_ok (A:Nat→Prop) (l Bs n₀ : Nat) (v:Value) (ss:List Str) (hA:∀ k,n₀ ≤ k→A k) (J Jx:List Str→World→Prop)
    (hY:∀ pre x W,J pre W→pre.length<ss.length→YieldAt Fence.wide 0 Try.prog l #[S x] W fun e W'=>
      (e=.returned (.bool true)∧J (pre++[x]) W'∧KpB n₀ W W')∨(e=.returned (.bool false)∧Jx (pre++[x]) W'))
    (w:World) (hBs:w.cell? ⟨Bs,0,none⟩=some v) (hs:StrsAt A w v ss) (h0:J [] w):
    Ret Try.prog 57 #[.func (.yield l) #[] #[],.pointer (some ⟨Bs,0,none⟩)] w fun _ W'=>(∃ xs,xs=ss∧J xs W')∨(∃ pre:List Str,True∧Jx pre W'):=by
  obtain ⟨p,cap,rfl,h1,h2,h3,hL,hh⟩:=id hs;clear hh;refine ret_of_W Try.func57 rfl (Nat.le_of_ble_eq_true rfl) (res0 rfl) ?_;refine W.seq (W.region (L.val (x_ld (v:=.slice _ _ _) kcoll_oc23 rfl hBs) rfl ?_));refine L.val (x_len_slice Try.underlying23 rfl) rfl ?_;refine L.val (x_mv (v:=.int _ _) rfl) rfl ?_;refine L.nil (thn_n (W.block (W.loop (fun m' E w'=>∃ (k:Nat),m'=ss.length - k∧E 0=.func (.yield l) #[] #[]∧E 5=.slice p ss.length cap∧E 6=.int .i64 (ss.length:Nat)∧E 7=.int .i64 (k:Nat)∧(k≤ss.length)∧(J (ss.take k) w')∧(StrsAt A w' (.slice p ss.length cap) ss)) (ss.length) ?_ ?_)))
  ·exact ⟨0,by omega,vi_,vi_,vi_,vi_,ao_,(by simpa using h0),ao_⟩
  ·rintro _ E wL8 ⟨k,em,e0,e5,e6,e7,hk,hJ,hs⟩;rw [upd_self e0,upd_self e5,upd_self e6,upd_self e7];refine W.seq (W.region (L.val (x_lss rfl rfl) rfl ?_));refine L.nil (thn_n (W.seq (W.cond (b:=_) rfl (fun g8=>?_) (fun g8=>?_))))
   ·have h8:=of_decide_eq_true g8;have hlt:k<ss.length:=by omega
    have hc:=hs.elem hlt;obtain ⟨b,o,rfl,hc⟩:=hc;refine W.skip (thn_n (W.seq (W.block (W.seq (W.region (L.val (x_ia1  Try.underlying23 kcoll_sz9 rfl rfl rfl om_) rfl ?_))))));refine L.val (x_ld (v:=S _) kcoll_oc9 rfl hc) rfl ?_;refine L.val (x_as (v:=S _) rfl) rfl ?_;refine L.nil (thn_n (W.seq (W.wide (m:=1) (WI.region ?_))));refine LI.val (fun _=>trivial) (fun _ h=>by cases h) (x_mv (v:=.func _ _ _) rfl) rfl ?_;refine LI.val (fun _=>trivial) (fun _ h=>by cases h) (x_mv (v:=S _) rfl) rfl ?_;refine LI.yield (R:=fun e W'=>∃ z,e=.returned (.bool z)∧(z=true→J (ss.take k++[ss.getD k []]) W'∧KpB n₀ wL8 W')∧(z=false→Jx (ss.take k++[ss.getD k []]) W')) (fun _=>trivial) rfl rfl rfl rfl ((hY (ss.take k) (ss.getD k []) wL8 hJ (by rw [List.length_take];omega)).mono ?_) (fun e w' ⟨z,h,_⟩=>⟨_,h⟩) ?_
    · rintro e W' (⟨rfl,a1,a2⟩ | ⟨rfl,a1⟩)
      · exact ⟨true,rfl,fun _=>⟨a1,a2⟩,fun h=>by cases h⟩
      · exact ⟨false,rfl,fun h=>(by cases h),fun _=>a1⟩
    rintro u w13 ⟨z,hz,r1,r2⟩;cases hz;refine LI.val (fun _=>trivial) (fun _ h=>by cases h) (x_not rfl) rfl ?_;refine LI.nil ?_;refine thn_n (W.cond (b:=_) rfl (fun g14=>?_) (fun g14=>?_))
    ·have h14:=(not_t g14);refine W.ret (blk_r (thn_r (thn_r (blk_r (fin_mk (.inr rfl) ?_)))));exact .inr ⟨_,trivial,r2 (by simpa using g14)⟩
    ·have h14:=(not_f g14);have h14:=g14;have hs:=hs.carryR (gr_of_below (r1 (by simpa using h14)).2.1) hA;refine W.skip (blk_n (thn_n (W.region (L.val (x_add rfl rfl (wr64 om_)) rfl ?_))));refine L.val (x_mv (v:=.int _ _) rfl) rfl ?_;refine L.nil (thn_n ⟨rfl,?_⟩);refine ⟨_,?_,k+1,rfl,vi_,vi_,vi_,vi_,ao_,(by rw [take_snoc (d:=[]) hlt];exact (r1 (by simpa using h14)).1),ao_⟩;omega
   ·have h8:=dlt_f g8;refine W.exit (thn_x (thn_x (blk_hit ?_)));refine fin_mk (.inl rfl) ?_;exact .inl ⟨ss,rfl,by rw [show k=ss.length by omega,List.take_length] at hJ;exact hJ⟩
theorem vals_seq (A:Nat→Prop) (Bs n₀ : Nat) (v:Value) (ss:List Str) (w:World) (hA:∀ k,n₀ ≤ k→A k) (hBs:Bs<w.heap.size) (hc:w.cell? ⟨Bs,0,none⟩=some v) (hs:StrsAt A w v ss) (hAw:∀ k,w.heap.size≤k→A k):
    SeqStopsK Fence.wide 1 Try.prog 57 #[.pointer (some ⟨Bs,0,none⟩)] (fun x:Str=>#[S x]) (KpB n₀) (fun xs=>xs=ss) (fun _=>True) ss.length w:=by
  intro l J Jx w1 hW _ _ hY h0;have hs1:=hs.carryR (gr_of_below hW) hAw;have hc1:=(hW.cell (p:=⟨Bs,0,none⟩) hBs).trans hc;rw [show (#[Value.func (.yield l) #[] #[]]++#[Value.pointer (some ⟨Bs,0,none⟩)]:Array Value)=#[.func (.yield l) #[] #[],.pointer (some ⟨Bs,0,none⟩)] from rfl];refine callsIn_wide.2 (Calls.mono (vals_ok A l Bs n₀ v ss hA J Jx hY w1 hc1 hs1 h0) ?_);rintro e w2 ⟨u,rfl,h⟩;exact ⟨⟨u,rfl⟩,h⟩
theorem seq_ok (gf:Nat) (lb:Array Value) (ss:List Str) (w:World) (eg:Go.Proofs.Enters Try.prog gf) (hl:ss.length≤100000000000) {Φ : List Str→Prop} (hΦ : ∀ xs,Φ xs→xs.Perm ss)
    (hseq:SeqStopsK Fence.wide 1 Try.prog gf lb (fun x:Str=>#[S x]) (KpB w.heap.size) Φ (fun _=>True) ss.length w):
    Ret Try.prog 55 #[.slice none 0 0,.func (.func gf) #[] lb] w fun v w'=>(∃ xs:List Str,xs.Perm ss∧Own w' (w.heap.size+1) 9 1 v xs.length (xs.map S)∧(xs=[]→v=.slice none 0 0))∧Bel w w':=by
  refine ret_of_W_marks Try.func55 rfl (Nat.le_of_ble_eq_true rfl) (res1 rfl) ?_;have hB:=Gr.refl (fun _=>False) w;refine W.seq (W.region (L.box (cs:=_) rfl rfl (fun w2 bx2 hw hz2=>?_)));have hB:=hB.carry hw;refine L.val (x_as (v:=_) rfl) rfl ?_;refine L.nil (thn_n (W.seq (W.seq (W.region (L.val (x_mv (v:=_) rfl) rfl ?_)))));refine L.nil (thn_n (W.block ?_));refine W.wide (m:=2) (WI.rangeF (by decide) rfl eg hseq (Bel.below hB) om_
    (fun pre w'=>∃ v,Box w' w.heap.size 23 [v]∧Own w' (w.heap.size+1) 9 1 v pre.length (pre.map S)∧RowKit.Below w.heap.size w w'∧(pre=[]→v=.slice none 0 0)) ?_ ⟨_,bx2,own_nil,Bel.below hB,fun _=>rfl⟩ rfl rfl ?_ ?_)
  · rintro pre a b row ⟨v,h1,h2,h3,h4⟩ hg hr;have hg':=gr_of_grown hg;refine ⟨v,h1.carryR hg' (fun e=>?_),h2.carryR hg' (fun j hj e=>?_),h3.grown hg h3.size (fun k e=>by have:=(hr k e).1;omega),h4⟩
    · have:=(hr _ e.symm).1;omega
    · obtain ⟨_,o,ho,hn⟩:=hr _ e.symm;rw [h2.cells hj ho] at hn;cases hn
  · rintro l pre x w5 ⟨v,h1,h2,h3,-⟩ hlen;refine WI.block (WI.region ?_);refine LI.val (fun _=>trivial) (fun _ h=>by cases h) (x_ld (v:=v) kcoll_oc23 rfl (h1.cell (i:=0) rfl)) rfl ?_;refine LI.val (fun _=>trivial) (fun _ h=>by cases h) (x_mv (v:=S x) rfl) rfl ?_;refine LI.val (fun _=>trivial) (fun _ h=>by cases h) (x_bs (sz:=1) (cells:=[S x]) Try.underlying23 kcoll_el9 rfl rfl rfl) rfl ?_;have b5:=bel_alloc w5 (.cells [S x].toArray 9);have h1:=h1.carry b5;have h2:=h2.carry b5;have bx:=box_alloc w5 9 [S x];obtain ⟨v',w6,hrun,a1,a2,a3,a4⟩:=append_run (ty:=23) (a:=⟨w5.heap.size,0,none⟩) (m:=1) 1 (news:=[S x]) Try.underlying23 kcoll_el9 h2 rfl bx.news (by simp [Value.oneCell',S]) om_ (by have:=h3.size;simp;omega);refine LI.val (fun _=>trivial) (fun _ h=>by cases h) (x_append rfl rfl hrun) rfl ?_;have hbl:=h1.lt;have hne:∀ j,some j=v.ownBlock→w.heap.size+1≤j:=fun j hj=>(h2.lt hj).1
    have h1:=h1.carryR a2 (fun e=>by have:=hne _ e;omega);refine LI.skip (fun _=>trivial) (fun _ h=>by cases h) (x_st (v:=v') kcoll_sz23 rfl rfl (by rcases a1.open with ⟨rfl,_⟩ | ⟨_,_,_,rfl,_⟩ <;> rfl) (h1.cell (i:=0) rfl) (h1.free 0)) ?_;have g7:Gr (fun k=>w.heap.size≤k) w5 (w6.setCell ⟨w.heap.size,0,none⟩ v'):=((b5.mono fun _ _ f=>f.elim).trans (a2.mono fun k _ hk=>by have:=hne k hk;omega)).trans ((gr_setCell w6 ⟨w.heap.size,0,none⟩ v').mono fun k _ hk=>by have:k=w.heap.size:=hk;omega);have hB7:=below_of_gr g7 h3.size;have ko:=((KeepsOthers.alloc w5 (.cells [S x].toArray 9)).trans (keeps_of_gr a2 fun k o hk ho=>h2.cells hk ho)).trans (KeepsOthers.setCell w6 ⟨w.heap.size,0,none⟩ v');refine LI.nil ⟨rfl,ko,⟨hB7,ko.walks⟩,_,h1.set 0 v',?_,h3.trans hB7,fun h=>by simp at h⟩
    · have:=Own.carryR a1 (gr_setCell w6 ⟨w.heap.size,0,none⟩ v') (fun j hj e=>by have:=(a1.lt hj).1;have e:j=w.heap.size:=e;omega);simpa using this
  rintro Db xs w5 hD hx ⟨v,h1,h2,h3,h4⟩ hK;refine blk_n (thn_n (W.seq (W.region (L.val (x_ld (v:=v) kcoll_oc23 rfl (h1.cell (i:=0) rfl)) rfl ?_))));refine L.val (x_as (v:=_) rfl) rfl ?_;refine L.nil (thn_n (W.ret (finM_mk (.inr rfl) ?_)));exact ⟨Db,rfl,hK,⟨xs,hΦ xs hx,Own.carryR h2 (gr_putObj _ _ _) (fun j hj e=>by have e:j=Db:=e;subst e;have:=h2.cells hj hK;cases this),h4⟩,(bel_of h3).set (gr_putObj _ _ _) om_⟩
end Go.Gx
namespace Go.Proofs
open Go.Shelf
def Try.lays190_ren:Go.Shelf.Ren:=⟨fun | 190=>49 | 125=>53 | 258=>58 | 128=>67 | 129=>68 | 302=>70 | 303=>71 | 304=>72 | 305=>73 | 306=>74 | 307=>75 | 308=>76 | 309=>77 | 310=>78 | 333=>84 | 329=>80 | 330=>81 | 334=>85 | 335=>86 | 336=>69 | 344=>88 | n=>n,fun | 31=>23 | 9=>9 | 3=>3 | 46=>74 | 0=>0 | 51=>87 | 53=>89 | 4=>4 | 183=>80 | 182=>79 | 131=>84 | 5=>5 | 218=>96 | 222=>100 | 228=>104 | 229=>105 | n=>n,fun | n=>n⟩
theorem Try.lays190:Go.Proofs.Lays.n190 Try.prog Try.lays190_ren:={
  mixed:=by kernel_rfl
  f125:=Try.func53.trans (congrArg some (by kernel_rfl))
  f128:=Try.func67.trans (congrArg some (by kernel_rfl))
  f129:=Try.func68.trans (congrArg some (by kernel_rfl))
  f190:=Try.func49.trans (congrArg some (by kernel_rfl))
  f258:=Try.func58.trans (congrArg some (by kernel_rfl))
  f302:=Try.func70.trans (congrArg some (by kernel_rfl))
  f303:=Try.func71.trans (congrArg some (by kernel_rfl))
  f304:=Try.func72.trans (congrArg some (by kernel_rfl))
  f305:=Try.func73.trans (congrArg some (by kernel_rfl))
  f306:=Try.func74.trans (congrArg some (by kernel_rfl))
  f307:=Try.func75.trans (congrArg some (by kernel_rfl))
  f308:=Try.func76.trans (congrArg some (by kernel_rfl))
  f309:=Try.func77.trans (congrArg some (by kernel_rfl))
  f310:=Try.func78.trans (congrArg some (by kernel_rfl))
  f329:=Try.func80.trans (congrArg some (by kernel_rfl))
  f330:=Try.func81.trans (congrArg some (by kernel_rfl))
  f333:=Try.func84.trans (congrArg some (by kernel_rfl))
  f334:=Try.func85.trans (congrArg some (by kernel_rfl))
  f335:=Try.func86.trans (congrArg some (by kernel_rfl))
  f336:=Try.func69.trans (congrArg some (by kernel_rfl))
  f344:=Try.func88.trans (congrArg some (by kernel_rfl))
  t0:=Try.underlying0
  a0:=Try.isAgg0
  z0:=Try.sizeOf0
  v0:=Try.zeroValue0
  t3:=Try.underlying3
  a3:=Try.isAgg3
  z3:=Try.sizeOf3
  v3:=Try.zeroValue3
  t4:=Try.underlying4
  a4:=Try.isAgg4
  z4:=Try.sizeOf4
  v4:=Try.zeroValue4
  t5:=Try.underlying5
  a5:=Try.isAgg5
  z5:=Try.sizeOf5
  v5:=Try.zeroValue5
  t9:=Try.underlying9
  a9:=Try.isAgg9
  z9:=Try.sizeOf9
  v9:=Try.zeroValue9
  t31:=Try.underlying23
  a31:=Try.isAgg23
  z31:=Try.sizeOf23
  v31:=Try.zeroValue23
  t46:=Try.underlying74
  a46:=Try.isAgg74
  z46:=Try.sizeOf74
  v46:=Try.zeroValue74
  t51:=Try.underlying87
  a51:=Try.isAgg87
  z51:=Try.sizeOf87
  v51:=Try.zeroValue87
  t53:=Try.underlying89
  a53:=Try.isAgg89
  z53:=Try.sizeOf89
  v53:=Try.zeroValue89
  t131:=Try.underlying84
  a131:=Try.isAgg84
  z131:=Try.sizeOf84
  v131:=Try.zeroValue84
  t182:=Try.underlying79
  a182:=Try.isAgg79
  z182:=Try.sizeOf79
  v182:=Try.zeroValue79
  t183:=Try.underlying80
  a183:=Try.isAgg80
  z183:=Try.sizeOf80
  v183:=Try.zeroValue80
  t218:=Try.underlying96
  a218:=Try.isAgg96
  z218:=Try.sizeOf96
  v218:=Try.zeroValue96
  t222:=Try.underlying100
  a222:=Try.isAgg100
  z222:=Try.sizeOf100
  v222:=Try.zeroValue100
  t228:=Try.underlying104
  a228:=Try.isAgg104
  z228:=Try.sizeOf104
  v228:=Try.zeroValue104
  t229:=Try.underlying105
  a229:=Try.isAgg105
  z229:=Try.sizeOf105
  v229:=Try.zeroValue105 }
open Go.Sort Go.RowKit in
theorem Try.slices_Sort_string (blk off cap:Nat) (ss:List (List UInt8)) (w:World) (hH:Holds encStr w blk off ss.toArray) (hblk:blk<w.heap.size) (hsz:ss.length<4611686018427387904):
    Calls Try.prog 49 #[.slice (some ⟨blk,off,none⟩) ss.length cap] w fun e w'=>
      e=.returned (.tuple #[])∧∃ n os,w'=grow (putRow encStr (Sort.ahead w n) blk off (ss.mergeSort fun x y=>decide (x≤y)).toArray) os:=Any.slices_Sort_string Try.lays190 blk off cap ss w hH hblk hsz
open Go.RowKit Go.Sort in
theorem Try.slices_Sort_string_none (p:Option Addr) (cap:Nat) (w:World):
    Calls Try.prog 49 #[.slice p 0 cap] w fun e w'=>e=.returned (.tuple #[])∧w'=w:=Any.slices_Sort_string_none Try.lays190 p cap w
end Go.Proofs
