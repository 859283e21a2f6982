/- A law's row where the arguments are of several types; slices of things opened as they are read. Conditions: none. -/
import Derived.Test.YtcncoaabbedhfaaGreatCbRep
import Derived.Test.YtcncoaabbedhfaaGreatCbSeq
namespace Go.Gx
open Go.ChangeShapes Go.WideShapes Go.Deep Go.RowKit
section
variable {H:Type} {enc:TypeId × Value→H} {P:Program}
def OAll (O:TypeId→World→Value→Prop) (W:World):List TypeId→List Value→Prop
  | [],[]=>True
  | t :: ts,v :: vs=>O t W v∧OAll O W ts vs
  | _,_=>False
theorem o_args {O:TypeId→World→Value→Prop} {W:World} {base:Nat}:∀ {ts:List TypeId} {vs:List Value} {ds:List (DataW H)} {ps:List MemPlace},
    (∀ t∈ts,∀ (v:Value) (d:DataW H) (p:List MemPlace),Value.okWide P W .any base t v→DataW.Trod enc P W 0 (fun _=>true) true t v d p→(d.weights P t).all (· ≤ reachBytes)=true→O t W v)→
    (∀ (j:Nat) v t,vs[j]? = some v→ts[j]? = some t→Value.okWide P W .any base t v)→DataW.TrodAll enc P W 0 (fun _=>true) true ts vs ds ps→
    (DataW.weightsEach P ts ds).all (· ≤ reachBytes)=true→OAll O W ts vs∧ds.length=ts.length
  | [],vs,ds,ps,_,_,h,_=>by
    obtain ⟨rfl,rfl,rfl⟩:=trodAll_nil h;exact ⟨trivial,rfl⟩
  | t :: ts,vs,ds,ps,hO,hv,h,hw=>by
    obtain ⟨v,vs,d,ds,a,b,rfl,rfl,rfl,h1,h2⟩:=trodAll_cons h;rw [DataW.weightsEach,List.all_append,Bool.and_eq_true] at hw;obtain ⟨e1,e2⟩:=o_args (fun t ht=>hO t (by simp [ht])) (fun j v t hj ht=>hv (j+1) v t hj ht) h2 hw.2;exact ⟨⟨hO t (by simp) v d a (hv 0 v t rfl rfl) h1 hw.1,e1⟩,by simp [e2]⟩
theorem lifted_of {C:Checked} {os:Os} {f:FuncId} {fn:Func} {s:ChangeSpec} {conds:List PathCond} {apart fresh handsOn again:Bool} {ts:List TypeId} {tb:TypeId} (O:TypeId→World→Value→Prop)
    (hps:fn.params.toList=ts) (hv:s.vars=[]) (hres:fn.resultTypes=#[tb]) (hb:C.prog.underlying tb=some .bool)
    (hl:laidOutB C.prog=true) (hrd:∀ t∈ts,C.prog.readableRec t=true∧t<C.prog.types.size)
    (hs:∀ ds:List (DataW H),ds.length=ts.length→s.fn H ds={ results:=[.lit (.bool true)],args:=ds })
    (own:ownKnob C.prog.godebug=none) (started:os.Started) (noInit:C.prog.inits.idxOf? f=none) (hfn:C.prog.funcs[f]? = some fn)
    (witness:∃ (w:World) (tape:Tape) (i:Input),w.os=os∧(w.forCall tape i).Shaped C.prog∧i.vars=[]∧Input.okWide C.prog (w.forCall tape i) .any w.heap.size f i∧
      s.pre6 enc C.prog fn conds apart (w.forCall tape i).memory i.args∧({}:Assume).holds C.prog (lone (Frame.enter C.prog f i.args .normal) [] (w.forCall tape i)))
    (hO:∀ t∈ts,∀ (W:World) (base:Nat) (v:Value) (d:DataW H) (p:List MemPlace),Value.okWide C.prog W .any base t v→DataW.Trod enc C.prog W 0 (fun _=>true) true t v d p→(d.weights C.prog t).all (· ≤ reachBytes)=true→O t W v)
    (contract:∀ (w:World) (vs:List Value),OAll O w ts vs→Ret C.prog f vs.toArray w fun v w'=>v=.bool true∧Bel w w'):
    ReturnsInHanded {} C os f .any (s.pre6 enc C.prog fn conds apart) (s.post enc C.prog fn apart fresh handsOn again):=by
  refine returnsInHanded_of_change_sized own started noInit hfn witness ?_;intro W base args ds gs before hval hW _ hwt _;obtain ⟨p,q,hA,hV,rfl,hz,hn⟩:=id hW;have hV':=hV;rw [hv] at hV';obtain ⟨rfl,rfl⟩:=trodVars_none hV';rw [hps] at hA;have hvt:s.plain.varTypes C.prog=[]:=by
    have:s.plain.vars=[]:=hv;simp [DataSpec.varTypes,this]
  rw [hvt,List.append_nil,List.append_nil,hps] at hwt;obtain ⟨e1,e2⟩:=o_args (O:=O) (base:=base) (fun t ht v d p=>hO t ht W base v d p) (fun j v t hj ht=>hval j t v (by rw [← hps] at ht;simpa using ht) (by simpa using hj)) hA hwt;have hr:=contract W args.toList e1;rw [Array.toArray_toList] at hr;refine Calls.mono hr fun e w' ⟨v,he,hv',hB⟩=>⟨v,he,?_⟩
  subst hv';exact post_of_bel hl (fun t ht=>by rw [hps] at ht;exact hrd t ht) hv hres hb hW (by rw [List.append_nil];exact hs ds e2) hB
variable {w:World} {base:Nat} {spare:Nat→Bool} {held:Bool}
theorem recs_open {α : Type} [Inhabited α] {Cc:Thing α} {k:Nat} {tS tE:TypeId} (ht:P.underlying tS=some (.slice tE)) (hc:P.cellsOf tE=k) (hk:0<k) (hb:2≤P.bytesOf tE)
    (hopen:∀ (fuel:Nat) (cs:List Value) (x:DataW H × List MemPlace),DataW.trod enc P w base spare held fuel tE cs=some x→(x.1.weights P tE).all (· ≤ reachBytes)=true→∃ s,Cc (fun _=>False) w cs s)
    {fuel:Nat} {v:Value} {x:DataW H × List MemPlace} (h:DataW.trod enc P w base spare held fuel tS [v]=some x) (hw:(x.1.weights P tS).all (· ≤ reachBytes)=true):∃ l:List α,RecsAt Cc k (fun _=>False) w v l:=by
  rcases DataW.trod_slice ht (x:=x) h with ⟨h1,rfl⟩ | ⟨a,len,cap,elems,rest,n',hn',h1,rfl,-,hl,hm,hel,hx,-,-⟩
  · simp at h1;exact ⟨[],h1 ▸ RecsAt.nil (by simp)⟩
  · simp at h1;subst h1;obtain ⟨hby,hwd⟩:=weights_slice ht hw;have hlen:len≤70368744177664:=by
      have h1:len * P.bytesOf tE≤reachBytes:=Nat.le_trans (Nat.mul_le_mul_right _ (by simp [hel])) hby;have h2:len * 2≤len * P.bytesOf tE:=Nat.mul_le_mul_left _ hb;have h3:=reachBytes_lt;omega
    have each:∀ i,i<len→∃ p:List Value × α,p.1.length=k∧(∀ j,j<k→w.cell? ((a.add (i * k)).add j)=p.1[j]?)∧Cc (fun _=>False) w p.1 p.2:=fun i hi=>by
      have h0:=hx i hi;rw [List.getElem?_eq_getElem om_] at h0;obtain ⟨cs',h1,h2⟩:=Option.bind_eq_some_iff.1 h0;rw [hc] at h1;obtain ⟨-,h3,h4⟩:=World.cells?_some h1;obtain ⟨s,hs⟩:=hopen n' cs' _ h2 (hwd _ (List.mem_map_of_mem (List.getElem_mem _)));exact ⟨(cs',s),h3,h4,hs⟩
    obtain ⟨F,hF⟩:=choose_lt (α := List Value × α) each;have e0:((List.range len).map fun i=>(F i).2).length=len:=by simp
    refine ⟨(List.range len).map fun i=>(F i).2,some a,cap,fun i=>(F i).1,by rw [e0],by rw [e0];exact hl,hm,by rw [e0];exact hlen,?_⟩;refine ⟨fun hne=>?_,fun i hi=>(hF i (by rw [e0] at hi;exact hi)).1,fun i hi=>?_⟩
    · have h0:0<len:=by rcases Nat.eq_zero_or_pos len with h | h;exact absurd (by rw [h];rfl) hne;exact h
      obtain ⟨q1,q2,-⟩:=hF 0 h0;have hc0:=q2 0 hk;rw [List.getElem?_eq_getElem om_] at hc0;obtain ⟨b,o,spot⟩:=a;have hspot:spot=none:=by simpa [Addr.add] using World.cell?_spot hc0
      subst hspot;refine ⟨b,o,rfl,fun f=>f,fun i j hi hj=>?_⟩;rw [e0] at hi;have:=(hF i hi).2.1 j hj;rw [add_plain,add_plain] at this;exact this
    · rw [e0] at hi;have:=(hF i hi).2.2;simpa [hi] using this
theorem recs_arg {α : Type} [Inhabited α] {Cc:Thing α} {k:Nat} {tS tE:TypeId} (ht:P.underlying tS=some (.slice tE)) (hc:P.cellsOf tE=k) (hk:0<k) (hb:2≤P.bytesOf tE)
    (hopen:∀ (fuel:Nat) (cs:List Value) (x:DataW H × List MemPlace),DataW.trod enc P w 0 (fun _=>true) true fuel tE cs=some x→(x.1.weights P tE).all (· ≤ reachBytes)=true→∃ s,Cc (fun _=>False) w cs s)
    {b:Nat} {v:Value} {d:DataW H} {p:List MemPlace} (hv:Value.okWide P w .any b tS v) (h:DataW.Trod enc P w 0 (fun _=>true) true tS v d p) (hw:(d.weights P tS).all (· ≤ reachBytes)=true):∃ l:List α,RecsAt Cc k (fun _=>False) w v l:=by
  obtain ⟨fuel,h⟩:=h;have hcells:v.cells.toList=[v]:=by
    unfold Value.okWide at hv;rw [ht] at hv;cases v <;> simp_all [Value.cells,Cell.okWide,Cell.ok]
  rw [hcells] at h;exact recs_open ht hc hk hb hopen h hw
end
end Go.Gx
