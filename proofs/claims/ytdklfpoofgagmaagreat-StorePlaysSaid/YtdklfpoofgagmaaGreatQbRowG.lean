/- A law's row where the arguments are of several types; slices of things opened as they are read. Conditions: none. -/
import Derived.RangeFuncNested
import Derived.Laws.OwnMore
import Derived.Sort.Walk0
import Derived.Sort.AssemblyPlain
import Derived.Sort.LotD3
import Derived.Test.YtdklfpoofgagmaaGreatProg
import Derived.Shelf.Sort.Plain
import Derived.Shelf.Slices.In.SortNone
import Derived.Test.YtdklfpoofgagmaaGreatQbRep
import Derived.Test.YtdklfpoofgagmaaGreatQbDef
namespace Go.Gx
open Go.ChangeShapes Go.WideShapes Go.Deep Go.RowKit
section
variable {H:Type} {enc:TypeId × Value→H} {P:Program}
def OAll (O:TypeId→World→Value→Prop) (W:World):List TypeId→List Value→Prop
  | [],[]=>True
  | t :: ts,v :: vs=>O t W v∧OAll O W ts vs
  | _,_=>False
theorem o_args {O:TypeId→World→Value→Prop} {W:World} {base:Nat}:∀ {ts:List TypeId} {vs:List Value} {ds:List (DataW H)} {ps:List MemPlace},
    (∀ t∈ts,∀ (v:Value) (d:DataW H) (p:List MemPlace),Value.okWide P W .any base t v→DataW.Trod enc P W 0 (fun _=>true) true t v d p→(d.weights P t).all (· ≤ reachBytes)=true→O t W v)→
    (∀ (j:Nat) v t,vs[j]? = some v→ts[j]? = some t→Value.okWide P W .any base t v)→DataW.TrodAll enc P W 0 (fun _=>true) true ts vs ds ps→
    (DataW.weightsEach P ts ds).all (· ≤ reachBytes)=true→OAll O W ts vs∧ds.length=ts.length
  | [],vs,ds,ps,_,_,h,_=>by
    obtain ⟨rfl,rfl,rfl⟩:=trodAll_nil h;exact ⟨trivial,rfl⟩
  | t :: ts,vs,ds,ps,hO,hv,h,hw=>by
    obtain ⟨v,vs,d,ds,a,b,rfl,rfl,rfl,h1,h2⟩:=trodAll_cons h;rw [DataW.weightsEach,List.all_append,Bool.and_eq_true] at hw;obtain ⟨e1,e2⟩:=o_args (fun t ht=>hO t (by simp [ht])) (fun j v t hj ht=>hv (j+1) v t hj ht) h2 hw.2;exact ⟨⟨hO t (by simp) v d a (hv 0 v t rfl rfl) h1 hw.1,e1⟩,by simp [e2]⟩
theorem lifted_of {C:Checked} {os:Os} {f:FuncId} {fn:Func} {s:ChangeSpec} {conds:List PathCond} {apart fresh handsOn again:Bool} {ts:List TypeId} {tb:TypeId} (O:TypeId→World→Value→Prop)
    (hps:fn.params.toList=ts) (hv:s.vars=[]) (hres:fn.resultTypes=#[tb]) (hb:C.prog.underlying tb=some .bool)
    (hl:laidOutB C.prog=true) (hrd:∀ t∈ts,C.prog.readableRec t=true∧t<C.prog.types.size)
    (hs:∀ ds:List (DataW H),ds.length=ts.length→s.fn H ds={ results:=[.lit (.bool true)],args:=ds })
    (own:ownKnob C.prog.godebug=none) (started:os.Started) (noInit:C.prog.inits.idxOf? f=none) (hfn:C.prog.funcs[f]? = some fn)
    (witness:∃ (w:World) (tape:Tape) (i:Input),w.os=os∧(w.forCall tape i).Shaped C.prog∧i.vars=[]∧Input.okWide C.prog (w.forCall tape i) .any w.heap.size f i∧
      s.pre6 enc C.prog fn conds apart (w.forCall tape i).memory i.args∧({}:Assume).holds C.prog (lone (Frame.enter C.prog f i.args .normal) [] (w.forCall tape i)))
    (hO:∀ t∈ts,∀ (W:World) (base:Nat) (v:Value) (d:DataW H) (p:List MemPlace),Value.okWide C.prog W .any base t v→DataW.Trod enc C.prog W 0 (fun _=>true) true t v d p→(d.weights C.prog t).all (· ≤ reachBytes)=true→O t W v)
    (contract:∀ (w:World) (vs:List Value),OAll O w ts vs→Ret C.prog f vs.toArray w fun v w'=>v=.bool true∧Bel w w'):
    ReturnsInHanded {} C os f .any (s.pre6 enc C.prog fn conds apart) (s.post enc C.prog fn apart fresh handsOn again):=by
  refine returnsInHanded_of_change_sized own started noInit hfn witness ?_;intro W base args ds gs before hval hW _ hwt _;obtain ⟨p,q,hA,hV,rfl,hz,hn⟩:=id hW;have hV':=hV;rw [hv] at hV';obtain ⟨rfl,rfl⟩:=trodVars_none hV';rw [hps] at hA;have hvt:s.plain.varTypes C.prog=[]:=by
    have:s.plain.vars=[]:=hv;simp [DataSpec.varTypes,this]
  rw [hvt,List.append_nil,List.append_nil,hps] at hwt;obtain ⟨e1,e2⟩:=o_args (O:=O) (base:=base) (fun t ht v d p=>hO t ht W base v d p) (fun j v t hj ht=>hval j t v (by rw [← hps] at ht;simpa using ht) (by simpa using hj)) hA hwt;have hr:=contract W args.toList e1;rw [Array.toArray_toList] at hr;refine Calls.mono hr fun e w' ⟨v,he,hv',hB⟩=>⟨v,he,?_⟩
  subst hv';exact post_of_bel hl (fun t ht=>by rw [hps] at ht;exact hrd t ht) hv hres hb hW (by rw [List.append_nil];exact hs ds e2) hB
variable {w:World} {base:Nat} {spare:Nat→Bool} {held:Bool}
theorem recs_open {α : Type} [Inhabited α] {Cc:Thing α} {k:Nat} {tS tE:TypeId} (ht:P.underlying tS=some (.slice tE)) (hc:P.cellsOf tE=k) (hk:0<k) (hb:2≤P.bytesOf tE)
    (hopen:∀ (fuel:Nat) (cs:List Value) (x:DataW H × List MemPlace),DataW.trod enc P w base spare held fuel tE cs=some x→(x.1.weights P tE).all (· ≤ reachBytes)=true→∃ s,Cc (fun _=>False) w cs s)
    {fuel:Nat} {v:Value} {x:DataW H × List MemPlace} (h:DataW.trod enc P w base spare held fuel tS [v]=some x) (hw:(x.1.weights P tS).all (· ≤ reachBytes)=true):∃ l:List α,RecsAt Cc k (fun _=>False) w v l:=by
  rcases DataW.trod_slice ht (x:=x) h with ⟨h1,rfl⟩ | ⟨a,len,cap,elems,rest,n',hn',h1,rfl,-,hl,hm,hel,hx,-,-⟩
  · simp at h1;exact ⟨[],h1 ▸ RecsAt.nil (by simp)⟩
  · simp at h1;subst h1;obtain ⟨hby,hwd⟩:=weights_slice ht hw;have hlen:len≤70368744177664:=by
      have h1:len * P.bytesOf tE≤reachBytes:=Nat.le_trans (Nat.mul_le_mul_right _ (by simp [hel])) hby;have h2:len * 2≤len * P.bytesOf tE:=Nat.mul_le_mul_left _ hb;have h3:=reachBytes_lt;omega
    have each:∀ i,i<len→∃ p:List Value × α,p.1.length=k∧(∀ j,j<k→w.cell? ((a.add (i * k)).add j)=p.1[j]?)∧Cc (fun _=>False) w p.1 p.2:=fun i hi=>by
      have h0:=hx i hi;rw [List.getElem?_eq_getElem om_] at h0;obtain ⟨cs',h1,h2⟩:=Option.bind_eq_some_iff.1 h0;rw [hc] at h1;obtain ⟨-,h3,h4⟩:=World.cells?_some h1;obtain ⟨s,hs⟩:=hopen n' cs' _ h2 (hwd _ (List.mem_map_of_mem (List.getElem_mem _)));exact ⟨(cs',s),h3,h4,hs⟩
    obtain ⟨F,hF⟩:=choose_lt (α := List Value × α) each;have e0:((List.range len).map fun i=>(F i).2).length=len:=by simp
    refine ⟨(List.range len).map fun i=>(F i).2,some a,cap,fun i=>(F i).1,by rw [e0],by rw [e0];exact hl,hm,by rw [e0];exact hlen,?_⟩;refine ⟨fun hne=>?_,fun i hi=>(hF i (by rw [e0] at hi;exact hi)).1,fun i hi=>?_⟩
    · have h0:0<len:=by rcases Nat.eq_zero_or_pos len with h | h;exact absurd (by rw [h];rfl) hne;exact h
      obtain ⟨q1,q2,-⟩:=hF 0 h0;have hc0:=q2 0 hk;rw [List.getElem?_eq_getElem om_] at hc0;obtain ⟨b,o,spot⟩:=a;have hspot:spot=none:=by simpa [Addr.add] using World.cell?_spot hc0
      subst hspot;refine ⟨b,o,rfl,fun f=>f,fun i j hi hj=>?_⟩;rw [e0] at hi;have:=(hF i hi).2.1 j hj;rw [add_plain,add_plain] at this;exact this
    · rw [e0] at hi;have:=(hF i hi).2.2;simpa [hi] using this
theorem recs_arg {α : Type} [Inhabited α] {Cc:Thing α} {k:Nat} {tS tE:TypeId} (ht:P.underlying tS=some (.slice tE)) (hc:P.cellsOf tE=k) (hk:0<k) (hb:2≤P.bytesOf tE)
    (hopen:∀ (fuel:Nat) (cs:List Value) (x:DataW H × List MemPlace),DataW.trod enc P w 0 (fun _=>true) true fuel tE cs=some x→(x.1.weights P tE).all (· ≤ reachBytes)=true→∃ s,Cc (fun _=>False) w cs s)
    {b:Nat} {v:Value} {d:DataW H} {p:List MemPlace} (hv:Value.okWide P w .any b tS v) (h:DataW.Trod enc P w 0 (fun _=>true) true tS v d p) (hw:(d.weights P tS).all (· ≤ reachBytes)=true):∃ l:List α,RecsAt Cc k (fun _=>False) w v l:=by
  obtain ⟨fuel,h⟩:=h;have hcells:v.cells.toList=[v]:=by
    unfold Value.okWide at hv;rw [ht] at hv;cases v <;> simp_all [Value.cells,Cell.okWide,Cell.ok]
  rw [hcells] at h;exact recs_open ht hc hk hb hopen h hw
end
end Go.Gx
namespace Go.Gx
variable {P:Program} {n m:Nat} {Q:Post} {D:List Deferred} {E:Env} {w:World} {F:Fence}
def isDefer (o:Oper):Bool:=match o.op with
  | .defer _=>true
  | _=>false
theorem rowsIn_wide {row:String} {args:Array Value} {R:Value→World→Prop} (h:Rows P row args w R):RowsIn Fence.wide m P row args w R:=fun c cs _=>
  let ⟨v,w',r,s⟩:=h c cs;⟨v,w',r,stepsIn_wide.2 s⟩
theorem LI.of_L {i:Nat} {ops:Array Oper} {l:List Oper} (h:L P n ops Q l D E w) (hd:l.all (fun o=>!isDefer o)=true):LI (Fence.wide.inRound i) m P n ops Q l D E w:=by
  suffices H:∀ (l:List Oper) (a:Act) (w:World),l.all (fun o=>!isDefer o)=true→wpList P ops (lift n Q) l a w→wpListIn (Fence.wide.inRound i) m P ops (lift n Q) l a w from fun a ha=>H l a w hd (h a ha)
  intro l;induction l with
  | nil=>intro a w _ h;exact h
  | cons o r ih=>
    intro a w hd h;rw [List.all_cons,Bool.and_eq_true] at hd;have hnd:∀ c,o.op≠.defer c:=fun c e=>by have:=hd.1;simp [isDefer,e] at this
    unfold wpList at h;unfold wpListIn;split
    · rename_i hw;rw [if_pos hw] at h
      rcases h with h | ⟨_,a',w',h⟩
      · refine ⟨fun f _=>trivial,?_⟩;rw [Oper.semAt_eq _ _ _ hnd];unfold Oper.wp at h;generalize (execOp a.eval o).run P w=res at h ⊢;cases res with
        | ok x w'=>
          cases x <;> simp only [Oper.upon,Oper.uponIn] at h ⊢ <;> try exact ih _ _ hd.2 h
          · refine ⟨fun h=>(by cases h),(callsIn_wide (n:=m - 1)).2 (h.mono fun e w'' h=>?_)⟩;cases e with
            | returned v=>exact ih _ _ hd.2 h
            | panicked c=>exact h
            | outgrown=>obtain ⟨a',w',h⟩:=h;exact absurd rfl h.1
          · exact ⟨fun h=>(by cases h),rowsIn_wide (h.mono fun v w'' h=>ih _ _ hd.2 h)⟩
        | halt x w'=>cases x <;> simp only [Oper.upon,Oper.uponIn] at h ⊢ <;> try exact h
      · exact absurd rfl h.1
    · rename_i hw;rw [if_neg hw] at h;exact ⟨fun f _=>trivial,ih _ _ hd.2 h⟩
theorem WI.mono {c:Code} {Q':Post} (h:WI F m P n c Q D E w) (hq:∀ e D E w,Q e D E w→Q' e D E w):WI F m P n c Q' D E w:=fun a ha=>
  wpIn_mono (h a ha) fun _ _ _ ⟨h1,E',h2,h3⟩=>⟨h1,E',h2,hq _ _ _ _ h3⟩
theorem WI.seq {c d:Code} (h:WI F m P n c (thn (WI F m P n d Q) Q) D E w):WI F m P n (.seq c d) Q D E w:=by
  intro a ha;refine wpIn_seq (wpIn_mono (h a ha) ?_);rintro e a' w' ⟨he,E',hE,hq⟩;cases e <;> simp only [thn,Exit.then] at hq ⊢;case normal=>exact hq a' hE
  case outgrown=>exact (he rfl).elim
  all_goals exact ⟨by simp,E',hE,hq⟩
theorem WI.skip (h:Q .normal D E w):WI F m P n .skip Q D E w:=fun _ ha=>wpIn_skip (lift_mk (by simp) ha h)
theorem WI.ret (h:Q .ret D E w):WI F m P n .ret Q D E w:=fun _ ha=>wpIn_ret (lift_mk (by simp) ha h)
theorem WI.exit {id:Nat} (h:Q (.exit id) D E w):WI F m P n (.exit id) Q D E w:=fun _ ha=>wpIn_exit (lift_mk (by simp) ha h)
theorem WI.cond {c:Operand} {x y:Code} {b:Bool} (hc:ev E c=.bool b) (ht:b=true→WI F m P n x Q D E w) (hf:b=false→WI F m P n y Q D E w):WI F m P n (.cond c x y) Q D E w:=by
  intro a ha;exact wpIn_cond_split (t:=b) (by rw [ha.eval];exact hc) (fun h=>ht h a ha) (fun h=>hf h a ha)
theorem WI.reg {i id:Nat} {l:List Oper} (hd:l.all (fun o=>!isDefer o)=true) (h:L P n l.toArray Q l D E w):WI (Fence.wide.inRound i) m P n (.region id l.toArray false) Q D E w:=WI.region (LI.of_L h hd)
theorem LI.yieldN {ops:Array Oper} {r:List Oper} {d:Nat} {g:Operand} {xs:Array Operand} {tys:Array TypeId} {t:TypeId} {p:String} {af:Array Edge} {l:Nat} {vs:List Value} {R:Ending→World→Prop} (hF:∀ f,F.fn f) (hdep:F.depth=none)
    (hg:ev E g=.func (.yield l) #[] #[]) (hx:xs.toList.map (ev E)=vs) (hd:Nat.blt d n=true) (hy:YieldAt F (m - 1) P l vs.toArray w R) (hr:∀ e w',R e w'→∃ u,e=.returned u)
    (k:∀ u w',R (.returned u) w'→LI F m P n ops Q r D (upd E d u) w'):LI F m P n ops Q (⟨some d,.call ⟨.value g,xs,tys⟩,t,p,af,none⟩ :: r) D E w:=by
  intro a ha;obtain ⟨fn,tmps,assign,body,hrun,hR⟩:=hy;have hxs:xs.map (ev E)=vs.toArray:=by apply Array.ext';simpa using hx
  unfold wpListIn;rw [if_pos (by simp [Region.wanted])];refine ⟨fun f _=>hF f,?_⟩;rw [Oper.semAt_plain F _ _ (fun c h=>by cases h),ha.eval];have hrun2:(execOp (ev E) ⟨some d,.call ⟨.value g,xs,tys⟩,t,p,af,none⟩).run P w=.ok (.round l fn tmps assign body) w:=by
    simp [execOp,resolve,invoke,hg,hxs,hrun,go_sem]
  rw [hrun2,Oper.uponIn_round];refine ⟨fun h=>(by rw [hdep] at h;cases h),RoundIn.mono hR ?_⟩;intro e w' hR';obtain ⟨u,rfl⟩:=hr e w' hR';exact k u w' hR' _ (ha.put u hd)
def updN (E:Env):List (Nat × Value)→Env
  | []=>E
  | (p,v) :: l=>updN (upd E p v) l
theorem fr_updN:∀ {l:List (Nat × Value)} {E:Env} {tmps:Array Value},Fr [] n ({ tmps,defers:=[] }:Act) E→l.all (fun x=>Nat.blt x.1 n)=true→
    Fr [] n ({ tmps:=l.foldl (fun t x=>t.setIfInBounds x.1 x.2) tmps,defers:=[] }:Act) (updN E l)
  | [],_,_,h,_=>h
  | (p,v) :: l,E,tmps,h,hl=>by
    rw [List.all_cons,Bool.and_eq_true] at hl;exact fr_updN (tmps:=tmps.setIfInBounds p v) (h.put v hl.1) hl.2
def rndX {α : Type} (B n₀ : Nat) (I:List α → World→Prop) (Ix:Code→List α → World→Prop) (xs:List α) (W:World):Post:=fun e _ _ W'=>match e with
  | .normal=>KeepsFrom B W W'∧KpB n₀ W W'∧I xs W'
  | .ret=>KeepsFrom B W W'∧Ix .ret xs W'
  | .exit id=>KeepsFrom B W W'∧Ix (.exit id) xs W'
  | _=>False
theorem W.rangeFx {α : Type} {g:Operand} {ps:Array Tmp} {assign body:Code} {gf:Nat} {lb:Array Value} {encs:α → Array Value} {n₀ N:Nat} {So Sp:List α → Prop} {w0:World}
    (hg:ev E g=.func (.func gf) #[] lb) (eg:Go.Proofs.Enters P gf) (hseq:SeqStopsK Fence.wide 1 P gf lb encs (KpB n₀) So Sp N w0) (hb0:RowKit.Below w0.heap.size w0 w) (hn0:n₀ ≤ w.heap.size)
    (hps:∀ x,(encs x).size=ps.size) (hpn:ps.toList.all (fun p=>Nat.blt p n)=true)
    (I:List α → World→Prop) (Ix:Code→List α → World→Prop) (hI:OwnFrom w.heap.size I) (hIx:∀ c,OwnFrom w.heap.size (Ix c)) (h0:I [] w)
    (Ax:α → Env→World→Prop) (hAx:∀ x a',OwnFrom w.heap.size (fun (_:Unit) W=>Ax x a' W))
    (hassign:∀ (l:Nat) (pre:List α) (x:α) (W:World),I pre W→WI (Fence.wide.inRound l) 0 P n assign (fun e D' E' W'=>e=.normal∧D'=[]∧KeepsFrom w.heap.size W W'∧KpB n₀ W W'∧I pre W'∧Ax x E' W') [] (updN E (ps.toList.zip (encs x).toList)) W)
    (hbody:∀ (l:Nat) (pre:List α) (x:α) (E':Env) (W:World),I pre W→Ax x E' W→pre.length<N→WI (Fence.wide.inRound l) 0 P n body (rndX w.heap.size n₀ I Ix (pre++[x]) W) [] E' W)
    (hdone:∀ (Db:Nat) (xs:List α) (w':World),w.heap.size≤Db→So xs→I xs w'→w'.heap[Db]? = some (.deferred (some []))→Q .normal ({ target:=.collected Db,args:=#[] } :: D) E w')
    (hstop:∀ (Db:Nat) (c:Code) (pre:List α) (w':World),w.heap.size≤Db→Sp pre→Ix c pre w'→w'.heap[Db]? = some (.deferred (some []))→W P n c Q ({ target:=.collected Db,args:=#[] } :: D) E w'):
    W P n (.rangeFunc g ps assign body) Q D E w:=by
  refine W.wide (m:=2) ?_;intro a ha;have h1:Fr [] n ({ tmps:=a.tmps,defers:=[] }:Act) E:=⟨rfl,ha.size,ha.get⟩;refine wpIn_rangeFunc_ownH rfl (by decide) (by rw [ha.eval];exact hg) trivial eg hseq (fun h k=>⟨h.1.trans k.1,h.2.trans k.2⟩) (fun W l o o' hl h hc hk=>⟨belowK_b hn0 W l o o' hl h hc hk,walksK_b (w:=w) W l o o' hl h hc hk⟩) hb0 hps I Ix hI hIx h0
    (fun x a' W=>∃ E',Fr [] n a' E'∧Ax x E' W) (fun x a' s X Y row hs hg hr=>?_) ?_ ?_ ?_ ?_
  · obtain ⟨E',h1,h2⟩:=hs;exact ⟨E',h1,hAx x E' () X Y row h2 hg hr⟩
  · intro l pre x W' K hi hK;have hz:(ps.zip (encs x)).foldl (fun t (p,v)=>t.setIfInBounds p v) a.tmps=(ps.toList.zip (encs x).toList).foldl (fun t x=>t.setIfInBounds x.1 x.2) a.tmps:=by
      rw [← Array.foldl_toList,Array.toList_zip]
    have hall:(ps.toList.zip (encs x).toList).all (fun x=>Nat.blt x.1 n)=true:=by
      rw [List.all_eq_true] at hpn ⊢;intro y hy;obtain ⟨p,v⟩:=y;exact hpn p (List.of_mem_zip hy).1
    have hfr:=fr_updN (tmps:=a.tmps) (l:=ps.toList.zip (encs x).toList) h1 hall;rw [hz];refine wpIn_mono (hassign l pre x W' hi _ hfr) ?_;rintro e a' w'' ⟨_,E',hE,rfl,hD,k1,k2,k3,k4⟩;rw [hD] at hE;exact hK a' w'' k1 k2 k3 ⟨E',hE,k4⟩
  · rintro l pre x a' W' _ _ hi ⟨E',hE,hA⟩ hlen;refine wpIn_mono (hbody l pre x E' W' hi hA hlen a' hE) ?_;rintro e a3 w3 ⟨h1,E3,hE3,hq⟩;cases e <;> simp only [rndX,ownPostG] at hq ⊢ <;> exact hq
  · intro Db xs w' hD hS hi hK;exact lift_mk (by simp) ⟨by rw [← ha.defers],ha.size,ha.get⟩ (hdone Db xs w' hD hS hi hK)
  · intro Db c pre w' hD hS hi hK;exact wpIn_wide.2 (hstop Db c pre w' hD hS hi hK _ ⟨by rw [← ha.defers],ha.size,ha.get⟩)
theorem kp_of_bel {n₀ : Nat} {w':World} (B:Nat) (h:Bel w w') (hn:n₀ ≤ w.heap.size):KeepsFrom B w w'∧KpB n₀ w w':=by
  have hs:∀ k o,w.heap[k]? = some o→w'.heap[k]? = some o:=fun k o hk=>(h.block k (Array.getElem?_eq_some_iff.1 hk).1 (fun f=>f)).trans hk
  exact ⟨⟨h.size,fun k o _ hk _=>hs k o hk⟩,⟨h.os,h.tape,h.output,h.size,fun k hk=>h.block k om_ (fun f=>f)⟩,⟨h.size,fun k o hk _=>hs k o hk⟩⟩
theorem kf_of_gr {R:Nat→Prop} {w':World} (B:Nat) (h:Gr R w w') (hR:∀ k o,R k→w.heap[k]? = some o→o.isCells=true):KeepsFrom B w w':=(keeps_of_gr h hR).from B
theorem Box.cells {b:Nat} {T:TypeId} {cs:List Value} (h:Box w b T cs) {o:Obj} (ho:w.heap[b]? = some o):o.isCells=true:=by
  unfold Box at h;rw [h] at ho;cases ho;rfl
theorem Box.from {b:Nat} {T:TypeId} {cs:List Value} {w':World} {row:Option Nat} (h:Box w b T cs) (hg:w.grownBy w' row) (hr:∀ r,row=some r→∃ o:Obj,w.heap[r]? = some o∧o.isCells=false):Box w' b T cs:=
  h.carryR (gr_of_grown hg) fun e=>by
    obtain ⟨o,ho,hc⟩:=hr _ e.symm;rw [h.cells ho] at hc;cases hc
theorem Bel.from {a w':World} {row:Option Nat} (h:Bel a w) (hg:w.grownBy w' row) (hr:∀ r,row=some r→a.heap.size≤r):Bel a w':=
  h.step (gr_of_grown hg) fun i hi e=>by have:=hr _ e.symm;omega
theorem defk {R:Nat→Prop} {w':World} {k:Nat} {o:Obj} (g:Gr R w w') (h:w.heap[k]? = some o) (hR:¬ R k):w'.heap[k]? = some o:=(g.block k (Array.getElem?_eq_some_iff.1 h).1 hR).trans h
def finMR (P:Program) (fn:Func) (Φ : Value→World→Prop):Post:=fun e D E w=>(e=.normal∨e=.ret)∧∃ Db,D=[{ target:=.collected Db,args:=#[] }]∧w.heap[Db]? = some (.deferred (some []))∧
  ∃ v,(∀ a:Array Value,(∀ t,a.getD t undef=E t)→(results fn a).run P (w.putObj Db (.deferred none))=.ok v (w.putObj Db (.deferred none)))∧Φ v (w.putObj Db (.deferred none))
theorem finMR_mk {fn:Func} {Φ : Value→World→Prop} {e:Exit} (he:e=.normal∨e=.ret) (h:∃ Db,D=[{ target:=.collected Db,args:=#[] }]∧w.heap[Db]? = some (.deferred (some []))∧
  ∃ v,(∀ a:Array Value,(∀ t,a.getD t undef=E t)→(results fn a).run P (w.putObj Db (.deferred none))=.ok v (w.putObj Db (.deferred none)))∧Φ v (w.putObj Db (.deferred none))):finMR P fn Φ e D E w:=⟨he,h⟩
theorem ret_of_W_marksR {f:FuncId} {fn:Func} {c:Code} {args:Array Value} {Φ : Value→World→Prop}
    (hf:P.funcs[f]? = some fn) (hb:fn.body=some c) (hn:args.size≤fn.ntmps) (h:W P fn.ntmps c (finMR P fn Φ) [] (env0 args.toList) w):Ret P f args w Φ := by
  refine callsIn_wide.1 (callsIn_of_wp_marks (n:=2) hf hb trivial (wpIn_wide.2 (wp_mono (h _ (fr0 hn)) ?_)));rintro e a' w' ⟨he,E',hE,h1,Db,hD,hK,v,hv,hΦ⟩;have key:LeavesInM Fence.wide 2 P fn a'.tmps (fun e w'=>∃ v,e=.returned v∧Φ v w') a'.defers .returning w':=by
    rw [hD];exact ⟨by simp,.inl ⟨_,_,rfl,run_takeDeferred hK,⟨v,hv _ hE.get,_,rfl,hΦ⟩⟩⟩
  rcases h1 with rfl | rfl
  · exact key
  · exact key
theorem run_load1 {T:TypeId} {a:Addr} {v:Value} (ht:oneCellT P T=true) (hc:w.cell? a=some v):(loadVar T a).run P w=.ok v w:=by
  have hb:∀ w,(isAgg T).run P w=.ok false w:=by
    unfold oneCellT at ht;cases hu:P.underlying T with
    | none=>simp [hu] at ht
    | some d=>
      intro w;refine Go.Proofs.run_isAgg_plain hu ?_ w;cases d <;> simp_all
  simp [loadVar,hb,hc]
theorem resC2 {fn:Func} {t u:Tmp} {T U:TypeId} {b1 b2:Nat} {T1 T2:TypeId} {v1 v2:Value} (hr:fn.results=#[.cell t T,.cell u U]) (h1:oneCellT P T=true) (h2:oneCellT P U=true)
    (e1:E t=.pointer (some ⟨b1,0,none⟩)) (e2:E u=.pointer (some ⟨b2,0,none⟩)) (x1:Box w b1 T1 [v1]) (x2:Box w b2 T2 [v2]):∀ a:Array Value,(∀ t,a.getD t undef=E t)→(results fn a).run P w=.ok (.tuple #[v1,v2]) w:=by
  intro a ha;have g1:a.getD t undef=.pointer (some ⟨b1,0,none⟩):=by rw [ha,e1]
  have g2:a.getD u undef=.pointer (some ⟨b2,0,none⟩):=by rw [ha,e2]
  have l1:(loadVar T ⟨b1,0,none⟩).run P w=.ok v1 w:=run_load1 h1 (x1.cell (i:=0) rfl);have l2:(loadVar U ⟨b2,0,none⟩).run P w=.ok v2 w:=run_load1 h2 (x2.cell (i:=0) rfl);rw [Array.getD_eq_getD_getElem?] at g1 g2;simp [results,hr,g1,g2,asAddr,l1,l2]
end Go.Gx
namespace Go.Gx
variable {P:Program} {ops:Array Oper} {Q:Exit→Act→World→Prop} {C:World→Prop}
def YC (P:Program) (ops:Array Oper) (C:World→Prop) (o:Oper) (v:Value) (a:Act):Prop:=
  Region.wanted o (yielded ops a.tmps)=true∧∀ w,C w→(execOp a.eval o).run P w=.ok (.value v) w
theorem YC.same {o:Oper} {v:Value} {a a':Act} (hy:YC P ops C o v a) (he:execOp a'.eval o=execOp a.eval o) (hw:Region.wanted o (yielded ops a'.tmps)=Region.wanted o (yielded ops a.tmps)):YC P ops C o v a':=by
  unfold YC at *;rw [he,hw];exact hy
theorem YC.take {i:Nat} {o:Oper} {v:Value} {a:Act} (hi:ops[i]? = some o) (hy:YC P ops C o v a) {K:Act→World→Prop} {w:World} (hC:C w) (h:K (a.put o.dst v) w):wpOp P ops Q i K a w:=by
  unfold wpOp;simp only [hi,hy.1,if_true,Oper.wp,hy.2 w hC,Oper.upon];exact .inl h
theorem wpOp_late {j:Nat} {oi oj:Oper} {v:Value} (hj:ops[j]? = some oj) (hap:oi.apart ops oj=true)
    (hsi:∀ cs b,oi.op≠.select cs b) (hsj:∀ cs b,oj.op≠.select cs b)
    (hQ:∀ c a w,Q (.panic c) (a.put oi.dst v) w→Q (.panic c) a w) {K:Act→World→Prop} {a:Act} {w:World}
    (hy:YC P ops C oi v a) (h:wpOp P ops Q j K (a.put oi.dst v) w):
    wpOp P ops Q j (fun a' w'=>YC P ops C oi v a'∧K (a'.put oi.dst v) w') a w:=by
  obtain ⟨h1,h2,h3⟩:=Oper.apart_spec hap;have keep:∀ u,YC P ops C oi v (a.put oj.dst u):=fun u=>hy.same (execOp_put oi hsi a oj.dst u h3) (wanted_put oi a oj.dst u h3)
  have hw1:=wanted_put oj a oi.dst v h1;have he1:=execOp_put oj hsj a oi.dst v h1;unfold wpOp at h ⊢;simp only [hj] at h ⊢;rw [hw1] at h;by_cases hw:Region.wanted oj (yielded ops a.tmps)=true
  · rw [if_pos hw] at h ⊢;rcases h with h | ⟨ha,hl⟩
    · left;unfold Oper.wp at h ⊢;rw [he1] at h;generalize (execOp a.eval oj).run P w=r at h ⊢;cases r with
      | halt x w'=>
        cases x with
        | panic u=>exact hQ _ _ _ h
        | _=>exact h
      | ok x w'=>
        cases x with
        | value u=>exact ⟨keep u,by rw [← Act.put_comm a v u h2];exact h⟩
        | skip=>exact ⟨keep _,by rw [← Act.put_comm a v undef h2];exact h⟩
        | defer d=>
          refine ⟨(hy.same (a':={ a with defers:=d :: a.defers }) rfl rfl).same (execOp_put oi hsi _ oj.dst _ h3) (wanted_put oi _ oj.dst _ h3),?_⟩;rw [← Act.put_comm _ v undef h2,← Act.put_defers];exact h
        | enter f args=>
          refine Calls.mono h fun e w'' he=>?_
          cases e with
          | returned u=>exact ⟨keep u,by rw [← Act.put_comm a v u h2];exact he⟩
          | panicked c=>exact hQ _ _ _ he
          | outgrown=>exact he
        | row row args=>exact Rows.mono h fun u w'' he=>⟨keep u,by rw [← Act.put_comm a v u h2];exact he⟩
        | _=>exact h
    · exact .inr ⟨by unfold Oper.asks at *;rw [he1] at ha;exact ha,hl⟩
  · rw [if_neg hw] at h ⊢;exact ⟨keep _,by rw [← Act.put_comm a v undef h2];exact h⟩
def wpAnyC (P:Program) (ops:Array Oper) (C:World→Prop) (st:Nat) (Q:Exit→Act→World→Prop):Nat→Array Bool→Act→World→Prop
  | 0,listed,a,w=>(listed.getD st false=false→C w)∧Region.ready .any ops listed=[]∧Q .normal a w
  | f+1,listed,a,w=>(listed.getD st false=false→C w)∧(Region.ready .any ops listed=[]→Q .normal a w)∧∀ i∈Region.ready .any ops listed,wpOp P ops Q i (wpAnyC P ops C st Q f (listed.setIfInBounds i true)) a w
theorem wpAnyC.any {st:Nat}:∀ (f:Nat) (listed:Array Bool) (a:Act) (w:World),wpAnyC P ops C st Q f listed a w→wpAny P .any ops Q f listed a w
  | 0,_,_,_,h=>h.2
  | f+1,_,_,_,h=>⟨h.2.1,fun i hi=>wpOp_mono (fun _ _ h'=>wpAnyC.any f _ _ _ h') (h.2.2 i hi)⟩
theorem wpAnyC.here {st f:Nat} {listed:Array Bool} {a:Act} {w:World} (h:wpAnyC P ops C st Q f listed a w):listed.getD st false=false→C w:=by
  cases f <;> exact h.1
theorem unlisted {listed:Array Bool} {i:Nat} (h:listed.getD i true=false):listed.getD i false=false:=by
  rcases Nat.lt_or_ge i listed.size with h' | h'
  · simp [h'] at h ⊢;exact h
  · simp [Array.getElem?_eq_none h'] at h
theorem wpAnyC.take {i st:Nat} {oi ost:Oper} {v:Value} (hi:ops[i]? = some oi) (hsel:∀ (j:Nat) (o:Oper) cs b,ops[j]? = some o→o.op≠.select cs b)
    (hQ:∀ c a w,Q (.panic c) (a.put oi.dst v) w→Q (.panic c) a w) (hst:ops[st]? = some ost) (hdep:∃ e∈ost.after,Region.binds .any e=true∧e.on=i) (hne:st≠i):
    ∀ (fuel:Nat) (listed:Array Bool) (a:Act) (w:World),
      (listed.getD st false=true→listed.getD i false=true)→
      (∀ j oj,ops[j]? = some oj→j≠i→listed.getD j true=false→(∀ e∈oj.after,Region.binds .any e=true→e.on≠i)→oi.apart ops oj=true)→
      i∈Region.ready .any ops listed→YC P ops C oi v a→
      wpAnyC P ops C st Q fuel (listed.setIfInBounds i true) (a.put oi.dst v) w→wpAnyC P ops C st Q (fuel+1) listed a w:=by
  intro fuel;induction fuel with
  | zero=>
    intro listed a w hcl _ hr hy H;have hun:=(mem_ready.1 hr).1;have hst0:listed.getD st false=false:=by
      cases hh:listed.getD st false
      · rfl
      · have:=hcl hh;rw [unlisted hun] at this;cases this
    have hC:C w:=H.1 (by rw [getD_set_ne false hne.symm];exact hst0);refine ⟨fun _=>hC,fun h=>(by rw [h] at hr;cases hr),fun j hj=>?_⟩;by_cases hji:j=i
    · subst hji;exact hy.take hi hC H
    · have:=ready_mono hj hji;rw [H.2.1] at this;cases this
  | succ fuel ih=>
    intro listed a w hcl hfree hr hy H;have hun:=(mem_ready.1 hr).1;have hst0:listed.getD st false=false:=by
      cases hh:listed.getD st false
      · rfl
      · have:=hcl hh;rw [unlisted hun] at this;cases this
    have hC:C w:=H.here (by rw [getD_set_ne false hne.symm];exact hst0);refine ⟨fun _=>hC,fun h=>(by rw [h] at hr;cases hr),fun j hj=>?_⟩;by_cases hji:j=i
    · subst hji;exact hy.take hi hC H
    · have h1:=H.2.2 j (ready_mono hj hji);obtain ⟨hjun,oj,hoj,hall⟩:=mem_ready.1 hj;have hnot:∀ e∈oj.after,Region.binds .any e=true→e.on≠i:=fun e he hb heq=>by
        have h1:=hall e he hb;rw [heq,unlisted hun] at h1;cases h1
      have hjst:j≠st:=fun e=>by
        subst e;rw [hst] at hoj;cases hoj;obtain ⟨e,he,hb,hon⟩:=hdep;exact hnot e he hb hon
      have h2:=wpOp_late hoj (hfree j oj hoj hji hjun hnot) (fun cs b=>hsel i oi cs b hi) (fun cs b=>hsel j oj cs b hoj) hQ hy h1;refine wpOp_mono (fun a' w' h3=>ih (listed.setIfInBounds j true) a' w' (fun h=>?_) (fun k ok hk hki hu hno=>?_) (ready_mono hr (Ne.symm hji)) h3.1 ?_) h2
      · rw [getD_set_ne false hjst,hst0] at h;cases h
      · refine hfree k ok hk hki ?_ hno;by_cases hjk:j=k
        · subst hjk;exact hjun
        · rw [getD_set_ne true hjk] at hu;exact hu
      · rw [Array.setIfInBounds_comm _ _ hji];exact h3.2
section
variable {n st:Nat} {K:List Deferred→Env→World→Prop} {D:List Deferred} {E:Env} {w:World}
def LAC (P:Program) (n:Nat) (ops:Array Oper) (C:World→Prop) (st:Nat) (K:List Deferred→Env→World→Prop) (fuel:Nat) (listed:Array Bool) (D:List Deferred) (E:Env) (w:World):Prop:=
  ∀ a,Fr D n a E→wpAnyC P ops C st (lift n (nrm K)) fuel listed a w
theorem W.drawT {id:Nat} {l:List Oper} {Q:Post} (C:World→Prop) (st:Nat) (hm:P.follows .mixedOrders=true) (h:LAC P n l.toArray C st (Q .normal) l.length (Array.replicate l.length false) D E w.drew):W P n (.region id l.toArray true) Q D E w:=by
  intro a ha;refine wp_mono (wp_region_any (Q:=lift n (nrm (Q .normal))) hm ?_) ?_
  · have:=(h a ha).any;simpa using this
  · rintro e a' w' ⟨he,E',hE,rfl,hq⟩;exact ⟨he,E',hE,hq⟩
theorem LAC.take {fuel:Nat} {listed:Array Bool} {i d:Nat} {op:Op} {t:TypeId} {p:String} {af:Array Edge} {v:Value}
    (ho:ops[i]? = some ⟨some d,op,t,p,af,none⟩) (hs:Region.noSelect ops=true) (hf:Region.free .any ops listed i=true) (hr:(Region.ready .any ops listed).contains i=true)
    (hst:(ops[st]?).map (fun o=>o.after.any fun e=>Region.binds .any e && Nat.beq e.on i)=some true) (hne:Nat.beq st i=false) (hl:listed.getD st true=false)
    (hx:∀ w,C w→X P op t E w v w) (hd:Nat.blt d n=true) (k:LAC P n ops C st K fuel (listed.setIfInBounds i true) D (upd E d v) w):LAC P n ops C st K (fuel+1) listed D E w:=by
  intro a ha;cases hos:ops[st]? with
  | none=>rw [hos] at hst;cases hst
  | some ost=>
    rw [hos] at hst;simp only [Option.map_some,Option.some.injEq] at hst;obtain ⟨e,he,hb⟩:=Array.any_eq_true'.1 hst;simp only [Bool.and_eq_true] at hb;refine wpAnyC.take ho (Region.noSelect_spec hs) ?_ hos ⟨e,he,hb.1,Nat.eq_of_beq_eq_true hb.2⟩ (fun h=>by subst h;simp at hne) fuel listed a w (fun h=>by rw [unlisted hl] at h;cases h) (Region.free_spec ho hf) (by simpa using hr)
      ⟨by simp [Region.wanted],fun w hw=>?_⟩ (k _ (ha.put v hd))
    · rintro c a w ⟨_,E,_,h,_⟩;cases h
    · have:=hx w hw;unfold X at this;rw [execOp_bare,ha.eval];exact this
theorem LAC.done {listed:Array Bool} (hr:Region.ready .any ops listed=[]) (hl:listed.getD st false=true) (h:K D E w):LAC P n ops C st K 0 listed D E w:=
  fun _ ha=>⟨fun h0=>(by rw [hl] at h0;cases h0),hr,lift_mk (by simp) ha ⟨rfl,h⟩⟩
def LACs (P:Program) (n:Nat) (ops:Array Oper) (C:World→Prop) (st:Nat) (K:List Deferred→Env→World→Prop) (fuel:Nat) (listed:Array Bool) (D:List Deferred) (E:Env) (w:World):List Nat→Prop
  | []=>True
  | i :: r=>(∃ o,ops[i]? = some o∧L P n ops (thn (LAC P n ops C st K fuel (listed.setIfInBounds i true)) (nrm K)) [o] D E w)∧LACs P n ops C st K fuel listed D E w r
theorem LAC.step {fuel:Nat} {listed:Array Bool} {rs:List Nat} (hC:listed.getD st false=false→C w) (hr:Region.ready .any ops listed=rs) (hne:rs≠[])
    (h:LACs P n ops C st K fuel listed D E w rs):LAC P n ops C st K (fuel+1) listed D E w:=by
  intro a ha;refine ⟨hC,fun h0=>absurd (hr.symm.trans h0) hne,fun j hj=>?_⟩;rw [hr] at hj;have key:∀ rs:List Nat,LACs P n ops C st K fuel listed D E w rs→j∈rs→∃ o,ops[j]? = some o∧L P n ops (thn (LAC P n ops C st K fuel (listed.setIfInBounds j true)) (nrm K)) [o] D E w:=by
    intro rs;induction rs with
    | nil=>intro _ hi;cases hi
    | cons k r ih=>
      intro hL hi;rcases List.mem_cons.1 hi with rfl | hi
      · exact hL.1
      · exact ih hL.2 hi
  obtain ⟨o,ho,hLo⟩:=key rs h hj;have h1:=hLo a ha;have hl:∀ e a w,lift n (thn (LAC P n ops C st K fuel (listed.setIfInBounds j true)) (nrm K)) e a w→Exit.then (wpAnyC P ops C st (lift n (nrm K)) fuel (listed.setIfInBounds j true)) (lift n (nrm K)) e a w:=by
    intro e a w ⟨h1,E',h2,h3⟩;cases e <;> simp only [thn,Exit.then] at h3 ⊢;case normal=>exact h3 a h2
    case outgrown=>exact absurd rfl h1
    all_goals exact ⟨by simp,E',h2,h3⟩
  unfold wpOp;rw [ho];simp only;unfold wpList at h1;split
  · rename_i hw
    rw [if_pos hw] at h1;rcases h1 with h1 | ⟨_,a',w',h1⟩
    · refine .inl ?_;unfold Oper.wp at h1 ⊢;generalize (execOp a.eval o).run P w=res at h1 ⊢;cases res with
      | ok x w'=>
        cases x <;> simp only [Oper.upon,wpList] at h1 ⊢ <;> try exact hl _ _ _ h1
        · refine h1.mono fun e w'' h=>?_
          cases e with
          | returned v=>exact hl _ _ _ h
          | panicked c=>exact hl _ _ _ h
          | outgrown=>obtain ⟨a',w',h⟩:=h;exact absurd rfl h.1
        · exact h1.mono fun v w'' h=>hl _ _ _ h
      | halt x w'=>cases x <;> simp only [Oper.upon] at h1 ⊢ <;> try exact hl _ _ _ h1
    · exact absurd rfl h1.1
  · rename_i hw;rw [if_neg hw] at h1;exact hl _ _ _ h1
end
theorem L.bs0 {n:Nat} {Q:Post} {D:List Deferred} {E:Env} {w:World} {ops:Array Oper} {r:List Oper} {d:Nat} {T e:TypeId} {sz:Nat} {t:TypeId} {p:String} {af:Array Edge} (hu:P.underlying T=some (.slice e)) (he:elT P e sz=true) (hd:Nat.blt d n=true)
    (k:∀ w1,Own w1 w.heap.size e sz (.slice (some ⟨w.heap.size,0,none⟩) 0 0) 0 []→Bel w w1→w1.heap.size=w.heap.size+1→L P n ops Q r D (upd E d (.slice (some ⟨w.heap.size,0,none⟩) 0 0)) w1):
    L P n ops Q (⟨some d,.buildSlice T 0 #[],t,p,af,none⟩ :: r) D E w:=by
  obtain ⟨i,z,hi,hz,hs,hzs,hpos,-⟩:=elT_spec he;have e0:Array.range 0=#[]:=by simp
  have hrun:(Instr.buildSlice T 0 ((#[]:Array (Nat × Operand)).map fun x=>(x.1,ev E x.2))).run P w=.ok (.slice (some ⟨w.heap.size,0,none⟩) 0 0) (w.alloc (.cells #[] e)):=by
    simp [Instr.buildSlice,run_underlying hu,sizeOf,typeInfo,hi,Instr.fill,newRow,e0]
  refine L.val (v:=.slice (some ⟨w.heap.size,0,none⟩) 0 0) (w':=w.alloc (.cells #[] e)) ?_ hd (k _ ⟨by simp,.inr ⟨w.heap.size,0,#[],rfl,Nat.le_refl _,World.alloc_heap_new w _,Nat.le_refl _,by simp [maxLen],by simp,by simp⟩⟩ (bel_alloc _ _) (by simp));unfold X;simp only [execOp,Sem.run_bind,hrun];rfl
def Holds (w:World) (u:Value) (m:Nat) (news:List Value):Prop:=
  (∃ a c,u=.slice (some a) m c∧∀ j x,news[j]? = some x→w.cell? (a.add j)=some x)∨(u=.slice none 0 0∧m=0∧news=[])
theorem x_slog {E:Env} {w:World} {x y:Operand} {t s e:TypeId} {a:Option Addr} {c m:Nat} {k:IntKind} {i:Int} {j sz:Nat} (hu:P.underlying s=some (.slice e)) (hs:(P.info? e).map (·.size)=some sz)
    (hx:ev E x=.slice a m c) (hy:ev E y=.int k i) (hi:i=(j:Nat)) (hj:j≤m):
    X P (.slice s x (some y) none none) t E w (.slice (if c=j then a else a.map (·.add (j * sz))) (m - j) (c - j)) w:=by
  unfold X;subst hi;cases hi:P.info? e with
  | none=>simp [hi] at hs
  | some inf=>
    simp only [hi,Option.map_some,Option.some.injEq] at hs;simp [execOp,hx,hy,Instr.sliceAt,Instr.slice,Instr.sliceBounds,Instr.sliceBound,asIntOf,run_underlying hu,sizeOf,typeInfo,hi,hs,hj]
end Go.Gx
namespace Go.Gx
open Go.Proofs Go.Sort
-- Srt
-- Srt2
-- Srt3
section
variable {α : Type} [Inhabited α] {lt:α → α → Bool} {p:α → Bool} {d:Array α} {a i j:Nat}
end
section
variable {α : Type} [Inhabited α] {lt:α → α → Bool} {d:Array α} {a b i j s:Nat}
end
-- Srt4
-- Srt5
structure PS {α : Type} [Inhabited α] (lt:α → α → Bool) (enc:α → Value) (b o n:Nat) (T:TypeId) (hd tl:List Value) (a e:Nat) (d:Array α) (w0:World) (a1 z1:Nat) (c:Array α) (w:World):Prop where
  gr:Gr (· = b) w0 w
  row:Row enc w b o T hd c tl
  size:c.size=n
  lo:a≤a1
  mid:a1≤z1
  hi:z1≤e
  below:Go.Sort.Below lt a1 z1 c
  fin:∀ c',PermIn a1 z1 c c'→SortedIn lt a1 z1 c'→PermIn a e d c'∧SortedIn lt a e c'
section
variable {α : Type} [Inhabited α] {lt:α → α → Bool} {enc:α → Value} {b o n:Nat} {T:TypeId} {hd tl:List Value} {a e:Nat} {d:Array α} {w0:World} {a1 z1:Nat} {c:Array α} {w:World}
theorem PS.carry {w':World} (h:PS lt enc b o n T hd tl a e d w0 a1 z1 c w) (g:Bel w w'):PS lt enc b o n T hd tl a e d w0 a1 z1 c w':=
  ⟨h.gr.carry g,h.row.carry g,h.size,h.lo,h.mid,h.hi,h.below,h.fin⟩
end
-- Srt6
end Go.Gx
namespace Go.Gx
open Go.Proofs
mutual
def Sh.size:Sh→Nat | .mk _ _ _ _ ps=>1+sizeL ps
def sizeL:List Sh→Nat | []=>0 | p :: ps=>p.size+sizeL ps
end
def nodup:List Str→Bool
  | []=>true
  | x :: l=>!l.contains x && nodup l
theorem take_snoc {α : Type} [Inhabited α] {l:List α} {k:Nat} {d:α} (hk:k<l.length):l.take (k+1)=l.take k++[l.getD k d]:=by
  rw [List.take_succ_eq_append_getElem hk,List.getD_eq_getElem?_getD,List.getElem?_eq_getElem hk,Option.getD_some]
mutual
def Sh.allB (p:Sh→Bool):Sh→Bool | .mk k o n l ps=>p (.mk k o n l ps) && allL p ps
def allL (p:Sh→Bool):List Sh→Bool | []=>true | x :: xs=>x.allB p && allL p xs
end
end Go.Gx
namespace Go.Gx
open Go.Proofs
theorem kcoll_el9:elT Tryz.prog 9 1=true:=by kernel_rfl
theorem kcoll_oc22:oneCellT Tryz.prog 22=true:=by kernel_rfl
theorem kcoll_sz22:(Tryz.prog.info? 22).map (·.size)=some 1:=by kernel_rfl
theorem gr_of_below {n₀ : Nat} {a b:World} (h:RowKit.Below n₀ a b):Gr (fun k=>n₀ ≤ k) a b:=⟨h.os,h.tape,h.output,h.size,fun k _ hn=>h.block k om_⟩
theorem seq_ok (gf:Nat) (lb:Array Value) (ss:List Str) (w:World) (eg:Go.Proofs.Enters Tryz.prog gf) (hl:ss.length≤100000000000) {Φ : List Str→Prop} (hΦ : ∀ xs,Φ xs→xs.Perm ss)
    (hseq:SeqStopsK Fence.wide 1 Tryz.prog gf lb (fun x:Str=>#[S x]) (KpB w.heap.size) Φ (fun _=>True) ss.length w):
    Ret Tryz.prog 136 #[.slice none 0 0,.func (.func gf) #[] lb] w fun v w'=>(∃ xs:List Str,xs.Perm ss∧Own w' (w.heap.size+1) 9 1 v xs.length (xs.map S)∧(xs=[]→v=.slice none 0 0))∧Bel w w':=by
  refine ret_of_W_marks Tryz.func136 rfl (Nat.le_of_ble_eq_true rfl) (res1 rfl) ?_;have hB:=Gr.refl (fun _=>False) w;refine W.seq (W.region (L.box (cs:=_) rfl rfl (fun w2 bx2 hw hz2=>?_)));have hB:=hB.carry hw;refine L.val (x_as (v:=_) rfl) rfl ?_;refine L.nil (thn_n (W.seq (W.seq (W.region (L.val (x_mv (v:=_) rfl) rfl ?_)))));refine L.nil (thn_n (W.block ?_));refine W.wide (m:=2) (WI.rangeF (by decide) rfl eg hseq (Bel.below hB) om_
    (fun pre w'=>∃ v,Box w' w.heap.size 22 [v]∧Own w' (w.heap.size+1) 9 1 v pre.length (pre.map S)∧RowKit.Below w.heap.size w w'∧(pre=[]→v=.slice none 0 0)) ?_ ⟨_,bx2,own_nil,Bel.below hB,fun _=>rfl⟩ rfl rfl ?_ ?_)
  · rintro pre a b row ⟨v,h1,h2,h3,h4⟩ hg hr;have hg':=gr_of_grown hg;refine ⟨v,h1.carryR hg' (fun e=>?_),h2.carryR hg' (fun j hj e=>?_),h3.grown hg h3.size (fun k e=>by have:=(hr k e).1;omega),h4⟩
    · have:=(hr _ e.symm).1;omega
    · obtain ⟨_,o,ho,hn⟩:=hr _ e.symm;rw [h2.cells hj ho] at hn;cases hn
  · rintro l pre x w5 ⟨v,h1,h2,h3,-⟩ hlen;refine WI.block (WI.region ?_);refine LI.val (fun _=>trivial) (fun _ h=>by cases h) (x_ld (v:=v) kcoll_oc22 rfl (h1.cell (i:=0) rfl)) rfl ?_;refine LI.val (fun _=>trivial) (fun _ h=>by cases h) (x_mv (v:=S x) rfl) rfl ?_;refine LI.val (fun _=>trivial) (fun _ h=>by cases h) (x_bs (sz:=1) (cells:=[S x]) Tryz.underlying22 kcoll_el9 rfl rfl rfl) rfl ?_;have b5:=bel_alloc w5 (.cells [S x].toArray 9);have h1:=h1.carry b5;have h2:=h2.carry b5;have bx:=box_alloc w5 9 [S x];obtain ⟨v',w6,hrun,a1,a2,a3,a4⟩:=append_run (ty:=22) (a:=⟨w5.heap.size,0,none⟩) (m:=1) 1 (news:=[S x]) Tryz.underlying22 kcoll_el9 h2 rfl bx.news (by simp [Value.oneCell',S]) om_ (by have:=h3.size;simp;omega);refine LI.val (fun _=>trivial) (fun _ h=>by cases h) (x_append rfl rfl hrun) rfl ?_;have hbl:=h1.lt;have hne:∀ j,some j=v.ownBlock→w.heap.size+1≤j:=fun j hj=>(h2.lt hj).1
    have h1:=h1.carryR a2 (fun e=>by have:=hne _ e;omega);refine LI.skip (fun _=>trivial) (fun _ h=>by cases h) (x_st (v:=v') kcoll_sz22 rfl rfl (by rcases a1.open with ⟨rfl,_⟩ | ⟨_,_,_,rfl,_⟩ <;> rfl) (h1.cell (i:=0) rfl) (h1.free 0)) ?_;have g7:Gr (fun k=>w.heap.size≤k) w5 (w6.setCell ⟨w.heap.size,0,none⟩ v'):=((b5.mono fun _ _ f=>f.elim).trans (a2.mono fun k _ hk=>by have:=hne k hk;omega)).trans ((gr_setCell w6 ⟨w.heap.size,0,none⟩ v').mono fun k _ hk=>by have:k=w.heap.size:=hk;omega);have hB7:=below_of_gr g7 h3.size;have ko:=((KeepsOthers.alloc w5 (.cells [S x].toArray 9)).trans (keeps_of_gr a2 fun k o hk ho=>h2.cells hk ho)).trans (KeepsOthers.setCell w6 ⟨w.heap.size,0,none⟩ v');refine LI.nil ⟨rfl,ko,⟨hB7,ko.walks⟩,_,h1.set 0 v',?_,h3.trans hB7,fun h=>by simp at h⟩
    · have:=Own.carryR a1 (gr_setCell w6 ⟨w.heap.size,0,none⟩ v') (fun j hj e=>by have:=(a1.lt hj).1;have e:j=w.heap.size:=e;omega);simpa using this
  rintro Db xs w5 hD hx ⟨v,h1,h2,h3,h4⟩ hK;refine blk_n (thn_n (W.seq (W.region (L.val (x_ld (v:=v) kcoll_oc22 rfl (h1.cell (i:=0) rfl)) rfl ?_))));refine L.val (x_as (v:=_) rfl) rfl ?_;refine L.nil (thn_n (W.ret (finM_mk (.inr rfl) ?_)));exact ⟨Db,rfl,hK,⟨xs,hΦ xs hx,Own.carryR h2 (gr_putObj _ _ _) (fun j hj e=>by have e:j=Db:=e;subst e;have:=h2.cells hj hK;cases this),h4⟩,(bel_of h3).set (gr_putObj _ _ _) om_⟩
end Go.Gx
namespace Go.Proofs
open Go.Shelf
def Tryz.lays190_ren:Go.Shelf.Ren:=⟨fun | 190=>121 | 125=>138 | 258=>137 | 128=>153 | 129=>140 | 302=>144 | 303=>145 | 304=>146 | 305=>147 | 306=>148 | 307=>149 | 308=>150 | 309=>151 | 310=>152 | 333=>156 | 329=>157 | 330=>158 | 334=>159 | 335=>160 | 336=>161 | 344=>162 | n=>n,fun | 31=>22 | 9=>9 | 3=>3 | 46=>186 | 0=>0 | 51=>165 | 53=>80 | 4=>4 | 183=>206 | 182=>205 | 131=>210 | 5=>5 | 218=>215 | 222=>219 | 228=>221 | 229=>222 | n=>n,fun | n=>n⟩
theorem Tryz.lays190:Go.Proofs.Lays.n190 Tryz.prog Tryz.lays190_ren:={
  mixed:=by kernel_rfl
  f125:=Tryz.func138.trans (congrArg some (by kernel_rfl))
  f128:=Tryz.func153.trans (congrArg some (by kernel_rfl))
  f129:=Tryz.func140.trans (congrArg some (by kernel_rfl))
  f190:=Tryz.func121.trans (congrArg some (by kernel_rfl))
  f258:=Tryz.func137.trans (congrArg some (by kernel_rfl))
  f302:=Tryz.func144.trans (congrArg some (by kernel_rfl))
  f303:=Tryz.func145.trans (congrArg some (by kernel_rfl))
  f304:=Tryz.func146.trans (congrArg some (by kernel_rfl))
  f305:=Tryz.func147.trans (congrArg some (by kernel_rfl))
  f306:=Tryz.func148.trans (congrArg some (by kernel_rfl))
  f307:=Tryz.func149.trans (congrArg some (by kernel_rfl))
  f308:=Tryz.func150.trans (congrArg some (by kernel_rfl))
  f309:=Tryz.func151.trans (congrArg some (by kernel_rfl))
  f310:=Tryz.func152.trans (congrArg some (by kernel_rfl))
  f329:=Tryz.func157.trans (congrArg some (by kernel_rfl))
  f330:=Tryz.func158.trans (congrArg some (by kernel_rfl))
  f333:=Tryz.func156.trans (congrArg some (by kernel_rfl))
  f334:=Tryz.func159.trans (congrArg some (by kernel_rfl))
  f335:=Tryz.func160.trans (congrArg some (by kernel_rfl))
  f336:=Tryz.func161.trans (congrArg some (by kernel_rfl))
  f344:=Tryz.func162.trans (congrArg some (by kernel_rfl))
  t0:=Tryz.underlying0
  a0:=Tryz.isAgg0
  z0:=Tryz.sizeOf0
  v0:=Tryz.zeroValue0
  t3:=Tryz.underlying3
  a3:=Tryz.isAgg3
  z3:=Tryz.sizeOf3
  v3:=Tryz.zeroValue3
  t4:=Tryz.underlying4
  a4:=Tryz.isAgg4
  z4:=Tryz.sizeOf4
  v4:=Tryz.zeroValue4
  t5:=Tryz.underlying5
  a5:=Tryz.isAgg5
  z5:=Tryz.sizeOf5
  v5:=Tryz.zeroValue5
  t9:=Tryz.underlying9
  a9:=Tryz.isAgg9
  z9:=Tryz.sizeOf9
  v9:=Tryz.zeroValue9
  t31:=Tryz.underlying22
  a31:=Tryz.isAgg22
  z31:=Tryz.sizeOf22
  v31:=Tryz.zeroValue22
  t46:=Tryz.underlying186
  a46:=Tryz.isAgg186
  z46:=Tryz.sizeOf186
  v46:=Tryz.zeroValue186
  t51:=Tryz.underlying165
  a51:=Tryz.isAgg165
  z51:=Tryz.sizeOf165
  v51:=Tryz.zeroValue165
  t53:=Tryz.underlying80
  a53:=Tryz.isAgg80
  z53:=Tryz.sizeOf80
  v53:=Tryz.zeroValue80
  t131:=Tryz.underlying210
  a131:=Tryz.isAgg210
  z131:=Tryz.sizeOf210
  v131:=Tryz.zeroValue210
  t182:=Tryz.underlying205
  a182:=Tryz.isAgg205
  z182:=Tryz.sizeOf205
  v182:=Tryz.zeroValue205
  t183:=Tryz.underlying206
  a183:=Tryz.isAgg206
  z183:=Tryz.sizeOf206
  v183:=Tryz.zeroValue206
  t218:=Tryz.underlying215
  a218:=Tryz.isAgg215
  z218:=Tryz.sizeOf215
  v218:=Tryz.zeroValue215
  t222:=Tryz.underlying219
  a222:=Tryz.isAgg219
  z222:=Tryz.sizeOf219
  v222:=Tryz.zeroValue219
  t228:=Tryz.underlying221
  a228:=Tryz.isAgg221
  z228:=Tryz.sizeOf221
  v228:=Tryz.zeroValue221
  t229:=Tryz.underlying222
  a229:=Tryz.isAgg222
  z229:=Tryz.sizeOf222
  v229:=Tryz.zeroValue222 }
open Go.Sort Go.RowKit in
theorem Tryz.slices_Sort_string (blk off cap:Nat) (ss:List (List UInt8)) (w:World) (hH:Holds encStr w blk off ss.toArray) (hblk:blk<w.heap.size) (hsz:ss.length<4611686018427387904):
    Calls Tryz.prog 121 #[.slice (some ⟨blk,off,none⟩) ss.length cap] w fun e w'=>
      e=.returned (.tuple #[])∧∃ n os,w'=grow (putRow encStr (Sort.ahead w n) blk off (ss.mergeSort fun x y=>decide (x≤y)).toArray) os:=Any.slices_Sort_string Tryz.lays190 blk off cap ss w hH hblk hsz
open Go.RowKit Go.Sort in
theorem Tryz.slices_Sort_string_none (p:Option Addr) (cap:Nat) (w:World):
    Calls Tryz.prog 121 #[.slice p 0 cap] w fun e w'=>e=.returned (.tuple #[])∧w'=w:=Any.slices_Sort_string_none Tryz.lays190 p cap w
end Go.Proofs
