/- An argument that is a type, or a row of strings, opened as it is read. Conditions: none. -/
import Derived.SizedLaws
import Derived.Deep.Slices
import Derived.ProofKit
import Derived.Test.YtjhcicmlpnkgeaaCcRep
import Derived.Test.YtjhcicmlpnkgeaaCcOwn
import Derived.Test.YtjhcicmlpnkgeaaCcPerm
namespace Go.Gx
open Go.ChangeShapes Go.WideShapes Go.Deep
section
variable {H:Type} {enc:TypeId × Value→H} {P:Program} {w:World} {base:Nat} {spare:Nat→Bool} {held:Bool}
theorem weights_at {t:TypeId} {fs:Array Field} {ds:List (DataW H)} {N:Nat} (ht:P.underlying t=some (.struct fs)) (h:((DataW.agg ds).weights P t).all (· ≤ N)=true) {i:Nat} {f:Field} {d:DataW H} (hf:fs[i]? = some f) (hd:ds[i]? = some d):(d.weights P f.type).all (· ≤ N)=true:=by
  have h0:(DataW.agg ds).weights P t=DataW.weightsEach P (fs.toList.map (·.type)) ds:=by simp [DataW.weights,ht]
  rw [h0] at h;rw [List.all_eq_true] at h ⊢;intro n hn;exact h n (DataW.weights_mem_each (t:=f.type) (by simp [hf]) hd n hn)
theorem weightsAll_mem {e:TypeId}:∀ {l:List (DataW H)} {d:DataW H},d∈l→∀ n∈d.weights P e,n∈DataW.weightsAll P e l
  | x :: l,d,hd,n,hn=>by
    rcases List.mem_cons.1 hd with rfl | hd
    · simp only [DataW.weightsAll,List.mem_append];exact .inl hn
    · simp only [DataW.weightsAll,List.mem_append];exact .inr (weightsAll_mem hd n hn)
theorem weights_slice {t e:TypeId} {l r:List (DataW H)} {N:Nat} (ht:P.underlying t=some (.slice e)) (h:((DataW.slice l r).weights P t).all (· ≤ N)=true):(l.length+r.length) * P.bytesOf e≤N∧∀ d∈l,(d.weights P e).all (· ≤ N)=true:=by
  have h0:(DataW.slice l r).weights P t=(l.length+r.length) * P.bytesOf e :: (DataW.weightsAll P e l++DataW.weightsAll P e r):=by simp [DataW.weights,ht]
  rw [h0,List.all_eq_true] at h;refine ⟨by simpa using h _ (List.mem_cons_self ..),fun d hd=>List.all_eq_true.2 fun n hn=>h n (List.mem_cons_of_mem _ (List.mem_append_left _ (weightsAll_mem hd n hn)))⟩
theorem max_le {s:ByteArray} (h:s.size≤maxLen):s.data.toList.length≤9223372036854775807:=by
  have h1:s.data.toList.length=s.size:=Array.length_toList;have h2:maxLen=9223372036854775807:=rfl;omega
theorem strs_open {t e:TypeId} {fuel:Nat} {v:Value} {x:DataW H × List MemPlace} (ht:P.underlying t=some (.slice e)) (he:P.underlying e=some .string) (hc:P.cellsOf e=1) (hb:2≤P.bytesOf e)
    (h:DataW.trod enc P w base spare held fuel t [v]=some x) (hw:(x.1.weights P t).all (· ≤ reachBytes)=true):∃ l,StrsAt (fun _=>False) w v l:=by
  rcases open_slice1 ht hc h with ⟨h1,rfl⟩ | ⟨a,len,cap,m,n,V,D,Pl,h1,-,hl,hm,hmm,rfl,hx⟩
  · simp only [List.cons.injEq,and_true] at h1;exact ⟨[],h1 ▸ StrsAt.nil _ _ _ _ (by simp)⟩
  · simp only [List.cons.injEq,and_true] at h1;subst h1;have hlm:len≤m:=by rw [hmm];split <;> omega
    have hs:∀ i,i<len→∃ s:Str,V i=S s∧s.length≤9223372036854775807:=fun i hi=>by
      obtain ⟨s,h1,-,h2⟩:=DataW.trod_string he (hx i om_).2;simp only [List.cons.injEq,and_true] at h1;exact ⟨s.data.toList,by rw [h1];simp [S],max_le h2⟩
    obtain ⟨f,hf⟩:=choose_lt (α := Str) hs;have hby:=(weights_slice ht hw).1;have hlen:len≤70368744177664:=by
      have h1:len * P.bytesOf e≤reachBytes:=Nat.le_trans (Nat.mul_le_mul_right _ (by simp)) hby;have h2:len * 2≤len * P.bytesOf e:=Nat.mul_le_mul_left _ hb;have h3:=reachBytes_lt;omega
    have e0:((List.range len).map f).length=len:=by simp
    refine ⟨(List.range len).map f,some a,cap,by rw [e0],by rw [e0];exact hl,hm,by rw [e0];exact hlen,?_,fun hne=>?_⟩
    · intro x hx;obtain ⟨i,hi,rfl⟩:=List.mem_map.1 hx;exact (hf i (by simpa using hi)).2
    · have h0:0<len:=by rcases Nat.eq_zero_or_pos len with h | h;exact absurd (by rw [h];rfl) hne;exact h
      have hc0:=(hx 0 om_).1;obtain ⟨b,o,spot⟩:=a;have hspot:spot=none:=by simpa [Addr.add] using World.cell?_spot hc0
      subst hspot;refine ⟨b,o,rfl,fun f=>f,fun i hi=>?_⟩;rw [e0] at hi;have hci:=(hx i om_).1;rw [add_plain] at hci;rw [hci,(hf i hi).1];simp [hi]
structure ShT (P:Program) (tS eN:TypeId) (f0 f1 f2 f3 f4:Field):Prop where
  hS:P.underlying tS=some (.struct #[f0,f1,f2,f3,f4])
  h0:P.underlying f0.type=some (.int .i64)
  h1:P.underlying f1.type=some .string
  h2:P.underlying f2.type=some .string
  h3:P.underlying f3.type=some (.slice eN)
  hN:P.underlying eN=some .string
  h4:P.underlying f4.type=some (.slice tS)
  o:f0.offset=0∧f1.offset=1∧f2.offset=2∧f3.offset=3∧f4.offset=4
  c:P.cellsOf f0.type=1∧P.cellsOf f1.type=1∧P.cellsOf f2.type=1∧P.cellsOf f3.type=1∧P.cellsOf f4.type=1
  cS:P.cellsOf tS=5
  cN:P.cellsOf eN=1
  bS:2≤P.bytesOf tS
  bN:2≤P.bytesOf eN
theorem sh_open {tS eN:TypeId} {f0 f1 f2 f3 f4:Field} (T:ShT P tS eN f0 f1 f2 f3 f4):∀ (fuel:Nat) (cs:List Value) (x:DataW H × List MemPlace),DataW.trod enc P w base spare held fuel tS cs=some x→
    (x.1.weights P tS).all (· ≤ reachBytes)=true→∃ s,ShC (fun _=>False) w cs s:=by
  intro fuel;induction fuel using Nat.strongRecOn with
  | _ fuel ih=>
    intro cs x h hw;obtain ⟨xs,n,rfl,rfl,hlen,hxl,hf⟩:=DataW.trod_struct T.hS h;rw [T.cS] at hlen;obtain ⟨o0,o1,o2,o3,o4⟩:=T.o;obtain ⟨c0,c1,c2,c3,c4⟩:=T.c
    match cs,hlen with
    | [v0,v1,v2,v3,v4],_=>
      match xs,hxl with
      | [x0,x1,x2,x3,x4],_=>
        have g0:=hf 0 f0 rfl;have g1:=hf 1 f1 rfl;have g2:=hf 2 f2 rfl;have g3:=hf 3 f3 rfl;have g4:=hf 4 f4 rfl;rw [o0,c0] at g0;rw [o1,c1] at g1;rw [o2,c2] at g2;rw [o3,c3] at g3;rw [o4,c4] at g4;have w3:=weights_at T.hS hw (i:=3) (f:=f3) (d:=x3.1) rfl rfl;have w4:=weights_at T.hS hw (i:=4) (f:=f4) (d:=x4.1) rfl rfl;obtain ⟨k,e0,-,-⟩:=DataW.trod_int T.h0 (x:=x0) g0;obtain ⟨s1,e1,-,l1⟩:=DataW.trod_string T.h1 (x:=x1) g1;obtain ⟨s2,e2,-,l2⟩:=DataW.trod_string T.h2 (x:=x2) g2;obtain ⟨ns,hns⟩:=strs_open T.h3 T.hN T.cN T.bN (x:=x3) g3 w3;simp at e0 e1 e2;have hps:∃ ps,ShsAt (fun _=>False) w v4 ps:=by
          rcases DataW.trod_slice T.h4 (x:=x4) g4 with ⟨h1,rfl⟩ | ⟨a,len,cap,elems,rest,n',hn',h1,rfl,-,hl,hm,hel,hx,-,-⟩
          · simp at h1;exact ⟨[],h1 ▸ ShsAt.nil _ _ _ _ (by simp)⟩
          · simp at h1;subst h1;obtain ⟨hby,hwd⟩:=weights_slice T.h4 w4;have hlen:len≤70368744177664:=by
              have h1:len * P.bytesOf tS≤reachBytes:=Nat.le_trans (Nat.mul_le_mul_right _ (by simp [hel])) hby;have h2:len * 2≤len * P.bytesOf tS:=Nat.mul_le_mul_left _ T.bS;have h3:=reachBytes_lt;omega
            have each:∀ i,i<len→∃ p:List Value × Sh,p.1.length=5∧(∀ j,j<5→w.cell? ((a.add (i * 5)).add j)=p.1[j]?)∧ShC (fun _=>False) w p.1 p.2:=fun i hi=>by
              have h0:=hx i hi;rw [List.getElem?_eq_getElem om_] at h0;obtain ⟨cs',h1,h2⟩:=Option.bind_eq_some_iff.1 h0;rw [T.cS] at h1;obtain ⟨-,h3,h4⟩:=World.cells?_some h1;obtain ⟨s,hs⟩:=ih n' om_ cs' _ h2 (hwd _ (List.mem_map_of_mem (List.getElem_mem _)));exact ⟨(cs',s),h3,h4,hs⟩
            obtain ⟨F,hF⟩:=choose_lt (α := List Value × Sh) each;have e0:((List.range len).map fun i=>(F i).2).length=len:=by simp
            refine ⟨(List.range len).map fun i=>(F i).2,some a,cap,fun i=>(F i).1,by rw [e0],by rw [e0];exact hl,hm,by rw [e0];exact hlen,?_⟩;refine ⟨fun hne=>?_,fun i hi=>(hF i (by rw [e0] at hi;exact hi)).1,fun i hi=>?_⟩
            · have h0:0<len:=by rcases Nat.eq_zero_or_pos len with h | h;exact absurd (by rw [h];rfl) hne;exact h
              obtain ⟨q1,q2,-⟩:=hF 0 h0;have hc0:=q2 0 om_;rw [List.getElem?_eq_getElem om_] at hc0;obtain ⟨b,o,spot⟩:=a;have hspot:spot=none:=by simpa [Addr.add] using World.cell?_spot hc0
              subst hspot;refine ⟨b,o,rfl,fun f=>f,fun i j hi hj=>?_⟩;rw [e0] at hi;have:=(hF i hi).2.1 j hj;rw [add_plain,add_plain] at this;exact this
            · rw [e0] at hi;have:=(hF i hi).2.2;simpa [hi] using this
        obtain ⟨ps,hps⟩:=hps;refine ⟨.mk k s1.data.toList s2.data.toList ns ps,?_⟩;rw [e0,e1,e2];have:=ShC.intro (k:=k) (of:=s1.data.toList) (nm:=s2.data.toList) hns hps (max_le l1) (max_le l2);simpa [S] using this
end
end Go.Gx
namespace Go.Gx
open Go.ChangeShapes Go.WideShapes Go.Deep Go.RowKit
section
variable {H:Type} {enc:TypeId × Value→H} {P:Program}
theorem Gr.kept {W W':World} (h:Bel W W') (may:MemPlace→Prop):W.keptBut W' may:=by
  refine ⟨h.os,h.output,fun i hi=>?_⟩;rw [h.block i hi (fun f=>f)];have hx:=Array.getElem?_eq_getElem hi;rw [hx];generalize W.heap[i]=o;cases o <;> simp
theorem trodAll_stays {W W':World} (hl:laidOutB P=true) (hB:Bel W W') {sp:Nat→Bool}:∀ {ts:List TypeId} {vs:List Value} {ds:List (DataW H)} {ps:List MemPlace},
    (∀ t∈ts,P.readableRec t=true∧t<P.types.size)→DataW.TrodAll enc P W 0 (fun _=>true) true ts vs ds ps→(∀ p∈ps,sp p.block=true)→DataW.TrodAll enc P W' 0 sp true ts vs ds ps
  | [],[],[],_,_,h,_=>h
  | t :: ts,v :: vs,d :: ds,ps,hr,h,hs=>by
    have hlt:=h.lt;obtain ⟨p,q,h1,h2,rfl⟩:=h;exact ⟨p,q,WideElems.Trod_stays hl (hr t (by simp)).1 (hr t (by simp)).2 h1 (fun x hx=>hB.below.same (hlt x (List.mem_append_left _ hx))) (fun x hx=>hs x (List.mem_append_left _ hx)),
      trodAll_stays hl hB (fun t ht=>hr t (by simp [ht])) h2 (fun x hx=>hs x (List.mem_append_right _ hx)),rfl⟩
theorem post_of_bel {f:Func} {s:ChangeSpec} {apart fresh handsOn again:Bool} {W W':World} {args:Array Value} {ds gs:List (DataW H)} {before:List MemPlace} {tb:TypeId}
    (hl:laidOutB P=true) (hr:∀ t∈f.params.toList,P.readableRec t=true∧t<P.types.size) (hv:s.vars=[]) (hres:f.resultTypes=#[tb]) (hb:P.underlying tb=some .bool)
    (hW:DataW.Whole enc P f.params.toList s.vars apart W args.toList ds gs before) (hs:s.fn H (ds++gs)={ results:=[.lit (.bool true)],args:=ds }) (hB:Bel W W'):
    s.post enc P f apart fresh handsOn again W args (.bool true) W':=by
  have hlt:=hW.lt;obtain ⟨p,q,hA,hV,rfl,hz,hn⟩:=id hW;rw [hv] at hV;obtain ⟨rfl,rfl⟩:=trodVars_none hV;simp only [List.append_nil] at hlt hs hz hn;have hA':∀ sp:Nat→Bool,(∀ x∈p,sp x.block=true)→DataW.TrodAll enc P W' 0 sp true f.params.toList args.toList ds p:=fun sp h=>trodAll_stays hl hB hr hA h
  have hR:∀ (b:Nat) (sp:Nat→Bool) (hd:Bool),DataW.TrodAll enc P W' b sp hd f.resultTypes.toList ((Value.bool true).resultList f.resultTypes.size) [DataW.lit (.bool true)] []:=fun b sp hd=>by
    rw [hres];exact trodAll_mk1 ⟨1,by simp [DataW.trod,hb,Value.cells]⟩
  refine ⟨ds,[],p++[],[],p,[],hW,?_,?_,?_,hB.kept _,fun _=>⟨?_,[DataW.lit (.bool true)]++ds,[],([]++p)++[],⟨[]++p,[],trodAll_append (hA' _ fun _ _=>rfl) (hR _ _ _),?_,rfl,?_,?_⟩,?_⟩⟩
  · rw [List.append_nil,hs];exact hR _ _ _
  · rw [List.append_nil,hs];exact hA' _ (fun x hx=>by simpa using hlt x hx)
  · rw [List.append_nil,hs,hv];exact rfl
  · intro j t r h1 h2;rw [hres] at h1 h2
    match j,h1,h2 with
    | 0,h1,h2=>
      simp [Value.resultList] at h1 h2;subst h1;subst h2;simp [Value.okWide,hb,Cell.okWide,Cell.ok]
  · rw [hv];exact rfl
  · intro b off hp;simp only [List.nil_append,List.append_nil] at hp;have:=hz b off hp;have hb':=hlt _ hp;unfold World.frozen? at this ⊢;rw [hB.block b hb' (fun f=>f)];exact this
  · intro ha;simpa using hn ha
  · intro x hx _;simpa using hx
theorem sh_arg {tS eN:TypeId} {f0 f1 f2 f3 f4:Field} (T:ShT P tS eN f0 f1 f2 f3 f4) {W:World} {base:Nat} {v:Value} {d:DataW H} {p:List MemPlace}
    (hv:Value.okWide P W .any base tS v) (h:DataW.Trod enc P W 0 (fun _=>true) true tS v d p) (hw:(d.weights P tS).all (· ≤ reachBytes)=true):∃ cs s,v=.agg cs.toArray∧ShC (fun _=>False) W cs s:=by
  unfold Value.okWide at hv;rw [T.hS] at hv;obtain ⟨a,rfl,-⟩:=hv;obtain ⟨fuel,h⟩:=h;obtain ⟨s,hs⟩:=sh_open T _ _ _ h hw;exact ⟨a.toList,s,rfl,hs⟩
end
end Go.Gx
namespace Go.Gx
open Go.ChangeShapes Go.WideShapes Go.Deep Go.RowKit
section
variable {H:Type} {enc:TypeId × Value→H} {P:Program}
def OAll (O:TypeId→World→Value→Prop) (W:World):List TypeId→List Value→Prop
  | [],[]=>True
  | t :: ts,v :: vs=>O t W v∧OAll O W ts vs
  | _,_=>False
theorem o_args {O:TypeId→World→Value→Prop} {W:World} {base:Nat}:∀ {ts:List TypeId} {vs:List Value} {ds:List (DataW H)} {ps:List MemPlace},
    (∀ t∈ts,∀ (v:Value) (d:DataW H) (p:List MemPlace),Value.okWide P W .any base t v→DataW.Trod enc P W 0 (fun _=>true) true t v d p→(d.weights P t).all (· ≤ reachBytes)=true→O t W v)→
    (∀ (j:Nat) v t,vs[j]? = some v→ts[j]? = some t→Value.okWide P W .any base t v)→DataW.TrodAll enc P W 0 (fun _=>true) true ts vs ds ps→
    (DataW.weightsEach P ts ds).all (· ≤ reachBytes)=true→OAll O W ts vs∧ds.length=ts.length
  | [],vs,ds,ps,_,_,h,_=>by
    obtain ⟨rfl,rfl,rfl⟩:=trodAll_nil h;exact ⟨trivial,rfl⟩
  | t :: ts,vs,ds,ps,hO,hv,h,hw=>by
    obtain ⟨v,vs,d,ds,a,b,rfl,rfl,rfl,h1,h2⟩:=trodAll_cons h;rw [DataW.weightsEach,List.all_append,Bool.and_eq_true] at hw;obtain ⟨e1,e2⟩:=o_args (fun t ht=>hO t (by simp [ht])) (fun j v t hj ht=>hv (j+1) v t hj ht) h2 hw.2;exact ⟨⟨hO t (by simp) v d a (hv 0 v t rfl rfl) h1 hw.1,e1⟩,by simp [e2]⟩
theorem lifted_of {C:Checked} {os:Os} {f:FuncId} {fn:Func} {s:ChangeSpec} {conds:List PathCond} {apart fresh handsOn again:Bool} {ts:List TypeId} {tb:TypeId} (O:TypeId→World→Value→Prop)
    (hps:fn.params.toList=ts) (hv:s.vars=[]) (hres:fn.resultTypes=#[tb]) (hb:C.prog.underlying tb=some .bool)
    (hl:laidOutB C.prog=true) (hrd:∀ t∈ts,C.prog.readableRec t=true∧t<C.prog.types.size)
    (hs:∀ ds:List (DataW H),ds.length=ts.length→s.fn H ds={ results:=[.lit (.bool true)],args:=ds })
    (own:ownKnob C.prog.godebug=none) (started:os.Started) (noInit:C.prog.inits.idxOf? f=none) (hfn:C.prog.funcs[f]? = some fn)
    (witness:∃ (w:World) (tape:Tape) (i:Input),w.os=os∧(w.forCall tape i).Shaped C.prog∧i.vars=[]∧Input.okWide C.prog (w.forCall tape i) .any w.heap.size f i∧
      s.pre6 enc C.prog fn conds apart (w.forCall tape i).memory i.args∧({}:Assume).holds C.prog (lone (Frame.enter C.prog f i.args .normal) [] (w.forCall tape i)))
    (hO:∀ t∈ts,∀ (W:World) (base:Nat) (v:Value) (d:DataW H) (p:List MemPlace),Value.okWide C.prog W .any base t v→DataW.Trod enc C.prog W 0 (fun _=>true) true t v d p→(d.weights C.prog t).all (· ≤ reachBytes)=true→O t W v)
    (contract:∀ (w:World) (vs:List Value),OAll O w ts vs→Ret C.prog f vs.toArray w fun v w'=>v=.bool true∧Bel w w'):
    ReturnsInHanded {} C os f .any (s.pre6 enc C.prog fn conds apart) (s.post enc C.prog fn apart fresh handsOn again):=by
  refine returnsInHanded_of_change_sized own started noInit hfn witness ?_;intro W base args ds gs before hval hW _ hwt _;obtain ⟨p,q,hA,hV,rfl,hz,hn⟩:=id hW;have hV':=hV;rw [hv] at hV';obtain ⟨rfl,rfl⟩:=trodVars_none hV';rw [hps] at hA;have hvt:s.plain.varTypes C.prog=[]:=by
    have:s.plain.vars=[]:=hv;simp [DataSpec.varTypes,this]
  rw [hvt,List.append_nil,List.append_nil,hps] at hwt;obtain ⟨e1,e2⟩:=o_args (O:=O) (base:=base) (fun t ht v d p=>hO t ht W base v d p) (fun j v t hj ht=>hval j t v (by rw [← hps] at ht;simpa using ht) (by simpa using hj)) hA hwt;have hr:=contract W args.toList e1;rw [Array.toArray_toList] at hr;refine Calls.mono hr fun e w' ⟨v,he,hv',hB⟩=>⟨v,he,?_⟩
  subst hv';exact post_of_bel hl (fun t ht=>by rw [hps] at ht;exact hrd t ht) hv hres hb hW (by rw [List.append_nil];exact hs ds e2) hB
variable {w:World} {base:Nat} {spare:Nat→Bool} {held:Bool}
theorem recs_open {α : Type} [Inhabited α] {Cc:Thing α} {k:Nat} {tS tE:TypeId} (ht:P.underlying tS=some (.slice tE)) (hc:P.cellsOf tE=k) (hk:0<k) (hb:2≤P.bytesOf tE)
    (hopen:∀ (fuel:Nat) (cs:List Value) (x:DataW H × List MemPlace),DataW.trod enc P w base spare held fuel tE cs=some x→(x.1.weights P tE).all (· ≤ reachBytes)=true→∃ s,Cc (fun _=>False) w cs s)
    {fuel:Nat} {v:Value} {x:DataW H × List MemPlace} (h:DataW.trod enc P w base spare held fuel tS [v]=some x) (hw:(x.1.weights P tS).all (· ≤ reachBytes)=true):∃ l:List α,RecsAt Cc k (fun _=>False) w v l:=by
  rcases DataW.trod_slice ht (x:=x) h with ⟨h1,rfl⟩ | ⟨a,len,cap,elems,rest,n',hn',h1,rfl,-,hl,hm,hel,hx,-,-⟩
  · simp at h1;exact ⟨[],h1 ▸ RecsAt.nil (by simp)⟩
  · simp at h1;subst h1;obtain ⟨hby,hwd⟩:=weights_slice ht hw;have hlen:len≤70368744177664:=by
      have h1:len * P.bytesOf tE≤reachBytes:=Nat.le_trans (Nat.mul_le_mul_right _ (by simp [hel])) hby;have h2:len * 2≤len * P.bytesOf tE:=Nat.mul_le_mul_left _ hb;have h3:=reachBytes_lt;omega
    have each:∀ i,i<len→∃ p:List Value × α,p.1.length=k∧(∀ j,j<k→w.cell? ((a.add (i * k)).add j)=p.1[j]?)∧Cc (fun _=>False) w p.1 p.2:=fun i hi=>by
      have h0:=hx i hi;rw [List.getElem?_eq_getElem om_] at h0;obtain ⟨cs',h1,h2⟩:=Option.bind_eq_some_iff.1 h0;rw [hc] at h1;obtain ⟨-,h3,h4⟩:=World.cells?_some h1;obtain ⟨s,hs⟩:=hopen n' cs' _ h2 (hwd _ (List.mem_map_of_mem (List.getElem_mem _)));exact ⟨(cs',s),h3,h4,hs⟩
    obtain ⟨F,hF⟩:=choose_lt (α := List Value × α) each;have e0:((List.range len).map fun i=>(F i).2).length=len:=by simp
    refine ⟨(List.range len).map fun i=>(F i).2,some a,cap,fun i=>(F i).1,by rw [e0],by rw [e0];exact hl,hm,by rw [e0];exact hlen,?_⟩;refine ⟨fun hne=>?_,fun i hi=>(hF i (by rw [e0] at hi;exact hi)).1,fun i hi=>?_⟩
    · have h0:0<len:=by rcases Nat.eq_zero_or_pos len with h | h;exact absurd (by rw [h];rfl) hne;exact h
      obtain ⟨q1,q2,-⟩:=hF 0 h0;have hc0:=q2 0 hk;rw [List.getElem?_eq_getElem om_] at hc0;obtain ⟨b,o,spot⟩:=a;have hspot:spot=none:=by simpa [Addr.add] using World.cell?_spot hc0
      subst hspot;refine ⟨b,o,rfl,fun f=>f,fun i j hi hj=>?_⟩;rw [e0] at hi;have:=(hF i hi).2.1 j hj;rw [add_plain,add_plain] at this;exact this
    · rw [e0] at hi;have:=(hF i hi).2.2;simpa [hi] using this
theorem recs_arg {α : Type} [Inhabited α] {Cc:Thing α} {k:Nat} {tS tE:TypeId} (ht:P.underlying tS=some (.slice tE)) (hc:P.cellsOf tE=k) (hk:0<k) (hb:2≤P.bytesOf tE)
    (hopen:∀ (fuel:Nat) (cs:List Value) (x:DataW H × List MemPlace),DataW.trod enc P w 0 (fun _=>true) true fuel tE cs=some x→(x.1.weights P tE).all (· ≤ reachBytes)=true→∃ s,Cc (fun _=>False) w cs s)
    {b:Nat} {v:Value} {d:DataW H} {p:List MemPlace} (hv:Value.okWide P w .any b tS v) (h:DataW.Trod enc P w 0 (fun _=>true) true tS v d p) (hw:(d.weights P tS).all (· ≤ reachBytes)=true):∃ l:List α,RecsAt Cc k (fun _=>False) w v l:=by
  obtain ⟨fuel,h⟩:=h;have hcells:v.cells.toList=[v]:=by
    unfold Value.okWide at hv;rw [ht] at hv;cases v <;> simp_all [Value.cells,Cell.okWide,Cell.ok]
  rw [hcells] at h;exact recs_open ht hc hk hb hopen h hw
end
end Go.Gx
namespace Go.Gx
open Go.ChangeShapes Go.WideShapes Go.Deep Go.RowKit
section
variable {H:Type} {enc:TypeId × Value→H} {P:Program} {w:World} {base:Nat} {spare:Nat→Bool} {held:Bool}
structure BdT (P:Program) (tB tS:TypeId) (g0 g1 g2:Field):Prop where
  hB:P.underlying tB=some (.struct #[g0,g1,g2])
  h0:P.underlying g0.type=some .string
  h1:P.underlying g1.type=some .string
  h2:g2.type=tS
  o:g0.offset=0∧g1.offset=1∧g2.offset=2
  c:P.cellsOf g0.type=1∧P.cellsOf g1.type=1∧P.cellsOf tS=5∧P.cellsOf tB=7
theorem bd_open {tB tS eN:TypeId} {g0 g1 g2 f0 f1 f2 f3 f4:Field} (G:BdT P tB tS g0 g1 g2) (T:ShT P tS eN f0 f1 f2 f3 f4) (fuel:Nat) (cs:List Value) (x:DataW H × List MemPlace) (h:DataW.trod enc P w base spare held fuel tB cs=some x)
    (hw:(x.1.weights P tB).all (· ≤ reachBytes)=true):∃ b,BdC (fun _=>False) w cs b:=by
  obtain ⟨xs,n,rfl,rfl,hlen,hxl,hf⟩:=DataW.trod_struct G.hB h;obtain ⟨o0,o1,o2⟩:=G.o;obtain ⟨c0,c1,c2,c3⟩:=G.c;rw [c3] at hlen
  match cs,hlen with
  | v0 :: v1 :: rs,hlen=>
    match xs,hxl with
    | [x0,x1,x2],_=>
      have g0':=hf 0 g0 rfl;have g1':=hf 1 g1 rfl;have g2':=hf 2 g2 rfl;rw [o0,c0] at g0';rw [o1,c1] at g1';rw [o2,G.h2,c2] at g2';have w2:=weights_at G.hB hw (i:=2) (f:=g2) (d:=x2.1) rfl rfl;obtain ⟨s0,e0,-,l0⟩:=DataW.trod_string G.h0 (x:=x0) g0';obtain ⟨s1,e1,-,l1⟩:=DataW.trod_string G.h1 (x:=x1) g1';have hrs:rs.length=5:=by simpa using hlen
      have er:((v0 :: v1 :: rs).drop 2).take 5=rs:=List.take_of_length_le (by show rs.length≤5;omega);rw [er] at g2';rw [G.h2] at w2;obtain ⟨s,hs⟩:=sh_open T _ _ x2 g2' w2;simp at e0 e1;refine ⟨⟨s0.data.toList,s1.data.toList,s⟩,rs,?_,hs,max_le l0,max_le l1⟩;rw [e0,e1];simp [S]
theorem bd_arg {tB tS eN:TypeId} {g0 g1 g2 f0 f1 f2 f3 f4:Field} (G:BdT P tB tS g0 g1 g2) (T:ShT P tS eN f0 f1 f2 f3 f4) {W:World} {base:Nat} {v:Value} {d:DataW H} {p:List MemPlace}
    (hv:Value.okWide P W .any base tB v) (h:DataW.Trod enc P W 0 (fun _=>true) true tB v d p) (hw:(d.weights P tB).all (· ≤ reachBytes)=true):∃ cs b,v=.agg cs.toArray∧BdC (fun _=>False) W cs b:=by
  unfold Value.okWide at hv;rw [G.hB] at hv;obtain ⟨a,rfl,-⟩:=hv;obtain ⟨fuel,h⟩:=h;obtain ⟨s,hs⟩:=bd_open G T _ _ _ h hw;exact ⟨a.toList,s,rfl,hs⟩
theorem bds_arg {tE tB tS eN:TypeId} {g0 g1 g2 f0 f1 f2 f3 f4:Field} (hE:P.underlying tE=some (.slice tB)) (hb:2≤P.bytesOf tB) (G:BdT P tB tS g0 g1 g2) (T:ShT P tS eN f0 f1 f2 f3 f4) {W:World} {base:Nat} {v:Value} {d:DataW H} {p:List MemPlace}
    (hv:Value.okWide P W .any base tE v) (h:DataW.Trod enc P W 0 (fun _=>true) true tE v d p) (hw:(d.weights P tE).all (· ≤ reachBytes)=true):∃ l,BdsAt (fun _=>False) W v l:=
  recs_arg hE G.c.2.2.2 om_ hb (fun fuel cs x h hw=>bd_open G T fuel cs x h hw) hv h hw
end
end Go.Gx
