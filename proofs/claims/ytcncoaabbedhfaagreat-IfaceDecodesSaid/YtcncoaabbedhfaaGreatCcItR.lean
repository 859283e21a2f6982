/- Items of an interface. Conditions: none. -/
import Derived.Laws.OwnMore
import Derived.Test.YtcncoaabbedhfaaGreatCcOwn
import Derived.Test.YtcncoaabbedhfaaGreatCcSh
namespace Go.Gx
structure It where
  kind:Int
  name:Str
  sh:Sh
instance:Inhabited It:=⟨⟨0,[],default⟩⟩
end Go.Gx
namespace Go.Gx
variable {P:Program} {ops:Array Oper} {Q:Exit→Act→World→Prop} {C:World→Prop}
def YC (P:Program) (ops:Array Oper) (C:World→Prop) (o:Oper) (v:Value) (a:Act):Prop:=
  Region.wanted o (yielded ops a.tmps)=true∧∀ w,C w→(execOp a.eval o).run P w=.ok (.value v) w
theorem YC.same {o:Oper} {v:Value} {a a':Act} (hy:YC P ops C o v a) (he:execOp a'.eval o=execOp a.eval o) (hw:Region.wanted o (yielded ops a'.tmps)=Region.wanted o (yielded ops a.tmps)):YC P ops C o v a':=by
  unfold YC at *;rw [he,hw];exact hy
theorem YC.take {i:Nat} {o:Oper} {v:Value} {a:Act} (hi:ops[i]? = some o) (hy:YC P ops C o v a) {K:Act→World→Prop} {w:World} (hC:C w) (h:K (a.put o.dst v) w):wpOp P ops Q i K a w:=by
  unfold wpOp;simp only [hi,hy.1,if_true,Oper.wp,hy.2 w hC,Oper.upon];exact .inl h
theorem wpOp_late {j:Nat} {oi oj:Oper} {v:Value} (hj:ops[j]? = some oj) (hap:oi.apart ops oj=true)
    (hsi:∀ cs b,oi.op≠.select cs b) (hsj:∀ cs b,oj.op≠.select cs b)
    (hQ:∀ c a w,Q (.panic c) (a.put oi.dst v) w→Q (.panic c) a w) {K:Act→World→Prop} {a:Act} {w:World}
    (hy:YC P ops C oi v a) (h:wpOp P ops Q j K (a.put oi.dst v) w):
    wpOp P ops Q j (fun a' w'=>YC P ops C oi v a'∧K (a'.put oi.dst v) w') a w:=by
  obtain ⟨h1,h2,h3⟩:=Oper.apart_spec hap;have keep:∀ u,YC P ops C oi v (a.put oj.dst u):=fun u=>hy.same (execOp_put oi hsi a oj.dst u h3) (wanted_put oi a oj.dst u h3)
  have hw1:=wanted_put oj a oi.dst v h1;have he1:=execOp_put oj hsj a oi.dst v h1;unfold wpOp at h ⊢;simp only [hj] at h ⊢;rw [hw1] at h;by_cases hw:Region.wanted oj (yielded ops a.tmps)=true
  · rw [if_pos hw] at h ⊢;rcases h with h | ⟨ha,hl⟩
    · left;unfold Oper.wp at h ⊢;rw [he1] at h;generalize (execOp a.eval oj).run P w=r at h ⊢;cases r with
      | halt x w'=>
        cases x with
        | panic u=>exact hQ _ _ _ h
        | _=>exact h
      | ok x w'=>
        cases x with
        | value u=>exact ⟨keep u,by rw [← Act.put_comm a v u h2];exact h⟩
        | skip=>exact ⟨keep _,by rw [← Act.put_comm a v undef h2];exact h⟩
        | defer d=>
          refine ⟨(hy.same (a':={ a with defers:=d :: a.defers }) rfl rfl).same (execOp_put oi hsi _ oj.dst _ h3) (wanted_put oi _ oj.dst _ h3),?_⟩;rw [← Act.put_comm _ v undef h2,← Act.put_defers];exact h
        | enter f args=>
          refine Calls.mono h fun e w'' he=>?_
          cases e with
          | returned u=>exact ⟨keep u,by rw [← Act.put_comm a v u h2];exact he⟩
          | panicked c=>exact hQ _ _ _ he
          | outgrown=>exact he
        | row row args=>exact Rows.mono h fun u w'' he=>⟨keep u,by rw [← Act.put_comm a v u h2];exact he⟩
        | _=>exact h
    · exact .inr ⟨by unfold Oper.asks at *;rw [he1] at ha;exact ha,hl⟩
  · rw [if_neg hw] at h ⊢;exact ⟨keep _,by rw [← Act.put_comm a v undef h2];exact h⟩
def wpAnyC (P:Program) (ops:Array Oper) (C:World→Prop) (st:Nat) (Q:Exit→Act→World→Prop):Nat→Array Bool→Act→World→Prop
  | 0,listed,a,w=>(listed.getD st false=false→C w)∧Region.ready .any ops listed=[]∧Q .normal a w
  | f+1,listed,a,w=>(listed.getD st false=false→C w)∧(Region.ready .any ops listed=[]→Q .normal a w)∧∀ i∈Region.ready .any ops listed,wpOp P ops Q i (wpAnyC P ops C st Q f (listed.setIfInBounds i true)) a w
theorem wpAnyC.any {st:Nat}:∀ (f:Nat) (listed:Array Bool) (a:Act) (w:World),wpAnyC P ops C st Q f listed a w→wpAny P .any ops Q f listed a w
  | 0,_,_,_,h=>h.2
  | f+1,_,_,_,h=>⟨h.2.1,fun i hi=>wpOp_mono (fun _ _ h'=>wpAnyC.any f _ _ _ h') (h.2.2 i hi)⟩
theorem wpAnyC.here {st f:Nat} {listed:Array Bool} {a:Act} {w:World} (h:wpAnyC P ops C st Q f listed a w):listed.getD st false=false→C w:=by
  cases f <;> exact h.1
theorem unlisted {listed:Array Bool} {i:Nat} (h:listed.getD i true=false):listed.getD i false=false:=by
  rcases Nat.lt_or_ge i listed.size with h' | h'
  · simp [h'] at h ⊢;exact h
  · simp [Array.getElem?_eq_none h'] at h
theorem wpAnyC.take {i st:Nat} {oi ost:Oper} {v:Value} (hi:ops[i]? = some oi) (hsel:∀ (j:Nat) (o:Oper) cs b,ops[j]? = some o→o.op≠.select cs b)
    (hQ:∀ c a w,Q (.panic c) (a.put oi.dst v) w→Q (.panic c) a w) (hst:ops[st]? = some ost) (hdep:∃ e∈ost.after,Region.binds .any e=true∧e.on=i) (hne:st≠i):
    ∀ (fuel:Nat) (listed:Array Bool) (a:Act) (w:World),
      (listed.getD st false=true→listed.getD i false=true)→
      (∀ j oj,ops[j]? = some oj→j≠i→listed.getD j true=false→(∀ e∈oj.after,Region.binds .any e=true→e.on≠i)→oi.apart ops oj=true)→
      i∈Region.ready .any ops listed→YC P ops C oi v a→
      wpAnyC P ops C st Q fuel (listed.setIfInBounds i true) (a.put oi.dst v) w→wpAnyC P ops C st Q (fuel+1) listed a w:=by
  intro fuel;induction fuel with
  | zero=>
    intro listed a w hcl _ hr hy H;have hun:=(mem_ready.1 hr).1;have hst0:listed.getD st false=false:=by
      cases hh:listed.getD st false
      · rfl
      · have:=hcl hh;rw [unlisted hun] at this;cases this
    have hC:C w:=H.1 (by rw [getD_set_ne false hne.symm];exact hst0);refine ⟨fun _=>hC,fun h=>(by rw [h] at hr;cases hr),fun j hj=>?_⟩;by_cases hji:j=i
    · subst hji;exact hy.take hi hC H
    · have:=ready_mono hj hji;rw [H.2.1] at this;cases this
  | succ fuel ih=>
    intro listed a w hcl hfree hr hy H;have hun:=(mem_ready.1 hr).1;have hst0:listed.getD st false=false:=by
      cases hh:listed.getD st false
      · rfl
      · have:=hcl hh;rw [unlisted hun] at this;cases this
    have hC:C w:=H.here (by rw [getD_set_ne false hne.symm];exact hst0);refine ⟨fun _=>hC,fun h=>(by rw [h] at hr;cases hr),fun j hj=>?_⟩;by_cases hji:j=i
    · subst hji;exact hy.take hi hC H
    · have h1:=H.2.2 j (ready_mono hj hji);obtain ⟨hjun,oj,hoj,hall⟩:=mem_ready.1 hj;have hnot:∀ e∈oj.after,Region.binds .any e=true→e.on≠i:=fun e he hb heq=>by
        have h1:=hall e he hb;rw [heq,unlisted hun] at h1;cases h1
      have hjst:j≠st:=fun e=>by
        subst e;rw [hst] at hoj;cases hoj;obtain ⟨e,he,hb,hon⟩:=hdep;exact hnot e he hb hon
      have h2:=wpOp_late hoj (hfree j oj hoj hji hjun hnot) (fun cs b=>hsel i oi cs b hi) (fun cs b=>hsel j oj cs b hoj) hQ hy h1;refine wpOp_mono (fun a' w' h3=>ih (listed.setIfInBounds j true) a' w' (fun h=>?_) (fun k ok hk hki hu hno=>?_) (ready_mono hr (Ne.symm hji)) h3.1 ?_) h2
      · rw [getD_set_ne false hjst,hst0] at h;cases h
      · refine hfree k ok hk hki ?_ hno;by_cases hjk:j=k
        · subst hjk;exact hjun
        · rw [getD_set_ne true hjk] at hu;exact hu
      · rw [Array.setIfInBounds_comm _ _ hji];exact h3.2
section
variable {n st:Nat} {K:List Deferred→Env→World→Prop} {D:List Deferred} {E:Env} {w:World}
def LAC (P:Program) (n:Nat) (ops:Array Oper) (C:World→Prop) (st:Nat) (K:List Deferred→Env→World→Prop) (fuel:Nat) (listed:Array Bool) (D:List Deferred) (E:Env) (w:World):Prop:=
  ∀ a,Fr D n a E→wpAnyC P ops C st (lift n (nrm K)) fuel listed a w
theorem W.drawT {id:Nat} {l:List Oper} {Q:Post} (C:World→Prop) (st:Nat) (hm:P.follows .mixedOrders=true) (h:LAC P n l.toArray C st (Q .normal) l.length (Array.replicate l.length false) D E w.drew):W P n (.region id l.toArray true) Q D E w:=by
  intro a ha;refine wp_mono (wp_region_any (Q:=lift n (nrm (Q .normal))) hm ?_) ?_
  · have:=(h a ha).any;simpa using this
  · rintro e a' w' ⟨he,E',hE,rfl,hq⟩;exact ⟨he,E',hE,hq⟩
theorem LAC.take {fuel:Nat} {listed:Array Bool} {i d:Nat} {op:Op} {t:TypeId} {p:String} {af:Array Edge} {v:Value}
    (ho:ops[i]? = some ⟨some d,op,t,p,af,none⟩) (hs:Region.noSelect ops=true) (hf:Region.free .any ops listed i=true) (hr:(Region.ready .any ops listed).contains i=true)
    (hst:(ops[st]?).map (fun o=>o.after.any fun e=>Region.binds .any e && Nat.beq e.on i)=some true) (hne:Nat.beq st i=false) (hl:listed.getD st true=false)
    (hx:∀ w,C w→X P op t E w v w) (hd:Nat.blt d n=true) (k:LAC P n ops C st K fuel (listed.setIfInBounds i true) D (upd E d v) w):LAC P n ops C st K (fuel+1) listed D E w:=by
  intro a ha;cases hos:ops[st]? with
  | none=>rw [hos] at hst;cases hst
  | some ost=>
    rw [hos] at hst;simp only [Option.map_some,Option.some.injEq] at hst;obtain ⟨e,he,hb⟩:=Array.any_eq_true'.1 hst;simp only [Bool.and_eq_true] at hb;refine wpAnyC.take ho (Region.noSelect_spec hs) ?_ hos ⟨e,he,hb.1,Nat.eq_of_beq_eq_true hb.2⟩ (fun h=>by subst h;simp at hne) fuel listed a w (fun h=>by rw [unlisted hl] at h;cases h) (Region.free_spec ho hf) (by simpa using hr)
      ⟨by simp [Region.wanted],fun w hw=>?_⟩ (k _ (ha.put v hd))
    · rintro c a w ⟨_,E,_,h,_⟩;cases h
    · have:=hx w hw;unfold X at this;rw [execOp_bare,ha.eval];exact this
theorem LAC.done {listed:Array Bool} (hr:Region.ready .any ops listed=[]) (hl:listed.getD st false=true) (h:K D E w):LAC P n ops C st K 0 listed D E w:=
  fun _ ha=>⟨fun h0=>(by rw [hl] at h0;cases h0),hr,lift_mk (by simp) ha ⟨rfl,h⟩⟩
def LACs (P:Program) (n:Nat) (ops:Array Oper) (C:World→Prop) (st:Nat) (K:List Deferred→Env→World→Prop) (fuel:Nat) (listed:Array Bool) (D:List Deferred) (E:Env) (w:World):List Nat→Prop
  | []=>True
  | i :: r=>(∃ o,ops[i]? = some o∧L P n ops (thn (LAC P n ops C st K fuel (listed.setIfInBounds i true)) (nrm K)) [o] D E w)∧LACs P n ops C st K fuel listed D E w r
theorem LAC.step {fuel:Nat} {listed:Array Bool} {rs:List Nat} (hC:listed.getD st false=false→C w) (hr:Region.ready .any ops listed=rs) (hne:rs≠[])
    (h:LACs P n ops C st K fuel listed D E w rs):LAC P n ops C st K (fuel+1) listed D E w:=by
  intro a ha;refine ⟨hC,fun h0=>absurd (hr.symm.trans h0) hne,fun j hj=>?_⟩;rw [hr] at hj;have key:∀ rs:List Nat,LACs P n ops C st K fuel listed D E w rs→j∈rs→∃ o,ops[j]? = some o∧L P n ops (thn (LAC P n ops C st K fuel (listed.setIfInBounds j true)) (nrm K)) [o] D E w:=by
    intro rs;induction rs with
    | nil=>intro _ hi;cases hi
    | cons k r ih=>
      intro hL hi;rcases List.mem_cons.1 hi with rfl | hi
      · exact hL.1
      · exact ih hL.2 hi
  obtain ⟨o,ho,hLo⟩:=key rs h hj;have h1:=hLo a ha;have hl:∀ e a w,lift n (thn (LAC P n ops C st K fuel (listed.setIfInBounds j true)) (nrm K)) e a w→Exit.then (wpAnyC P ops C st (lift n (nrm K)) fuel (listed.setIfInBounds j true)) (lift n (nrm K)) e a w:=by
    intro e a w ⟨h1,E',h2,h3⟩;cases e <;> simp only [thn,Exit.then] at h3 ⊢;case normal=>exact h3 a h2
    case outgrown=>exact absurd rfl h1
    all_goals exact ⟨by simp,E',h2,h3⟩
  unfold wpOp;rw [ho];simp only;unfold wpList at h1;split
  · rename_i hw
    rw [if_pos hw] at h1;rcases h1 with h1 | ⟨_,a',w',h1⟩
    · refine .inl ?_;unfold Oper.wp at h1 ⊢;generalize (execOp a.eval o).run P w=res at h1 ⊢;cases res with
      | ok x w'=>
        cases x <;> simp only [Oper.upon,wpList] at h1 ⊢ <;> try exact hl _ _ _ h1
        · refine h1.mono fun e w'' h=>?_
          cases e with
          | returned v=>exact hl _ _ _ h
          | panicked c=>exact hl _ _ _ h
          | outgrown=>obtain ⟨a',w',h⟩:=h;exact absurd rfl h.1
        · exact h1.mono fun v w'' h=>hl _ _ _ h
      | halt x w'=>cases x <;> simp only [Oper.upon] at h1 ⊢ <;> try exact hl _ _ _ h1
    · exact absurd rfl h1.1
  · rename_i hw;rw [if_neg hw] at h1;exact hl _ _ _ h1
end
theorem L.bs0 {n:Nat} {Q:Post} {D:List Deferred} {E:Env} {w:World} {ops:Array Oper} {r:List Oper} {d:Nat} {T e:TypeId} {sz:Nat} {t:TypeId} {p:String} {af:Array Edge} (hu:P.underlying T=some (.slice e)) (he:elT P e sz=true) (hd:Nat.blt d n=true)
    (k:∀ w1,Own w1 w.heap.size e sz (.slice (some ⟨w.heap.size,0,none⟩) 0 0) 0 []→Bel w w1→w1.heap.size=w.heap.size+1→L P n ops Q r D (upd E d (.slice (some ⟨w.heap.size,0,none⟩) 0 0)) w1):
    L P n ops Q (⟨some d,.buildSlice T 0 #[],t,p,af,none⟩ :: r) D E w:=by
  obtain ⟨i,z,hi,hz,hs,hzs,hpos,-⟩:=elT_spec he;have e0:Array.range 0=#[]:=by simp
  have hrun:(Instr.buildSlice T 0 ((#[]:Array (Nat × Operand)).map fun x=>(x.1,ev E x.2))).run P w=.ok (.slice (some ⟨w.heap.size,0,none⟩) 0 0) (w.alloc (.cells #[] e)):=by
    simp [Instr.buildSlice,run_underlying hu,sizeOf,typeInfo,hi,Instr.fill,newRow,e0]
  refine L.val (v:=.slice (some ⟨w.heap.size,0,none⟩) 0 0) (w':=w.alloc (.cells #[] e)) ?_ hd (k _ ⟨by simp,.inr ⟨w.heap.size,0,#[],rfl,Nat.le_refl _,World.alloc_heap_new w _,Nat.le_refl _,by simp [maxLen],by simp,by simp⟩⟩ (bel_alloc _ _) (by simp));unfold X;simp only [execOp,Sem.run_bind,hrun];rfl
def Holds (w:World) (u:Value) (m:Nat) (news:List Value):Prop:=
  (∃ a c,u=.slice (some a) m c∧∀ j x,news[j]? = some x→w.cell? (a.add j)=some x)∨(u=.slice none 0 0∧m=0∧news=[])
theorem L.appendG {n:Nat} {Q:Post} {D:List Deferred} {E:Env} {w:World} {base:Nat} {e:TypeId} {sz:Nat} {v:Value} {k:Nat} {xs:List Value} {ops:Array Oper} {r:List Oper} {d:Nat} {x y:Operand} {T t:TypeId} {p:String} {af:Array Edge} {u:Value} {m:Nat} {news:List Value}
    (hu:P.underlying T=some (.slice e)) (he:elT P e sz=true) (hx:ev E x=v) (hy:ev E y=u) (hd:Nat.blt d n=true) (h:Own w base e sz v k xs)
    (hl:news.length=m * sz) (hn:Holds w u m news) (h1:∀ u∈news,u.oneCell'=true) (hk:(k+m) * 200≤140737488355328) (hb:base≤w.heap.size)
    (kk:∀ v' w',Own w' base e sz v' (k+m) (xs++news)→Gr (fun j=>some j=v.ownBlock) w w'→(v'.ownBlock=v.ownBlock∨v'.ownBlock=some w.heap.size)→L P n ops Q r D (upd E d v') w'):
    L P n ops Q (⟨some d,.call ⟨.builtin .append,#[x,y],#[T,T]⟩,t,p,af,none⟩ :: r) D E w:=by
  rcases hn with ⟨a,c,rfl,hn⟩ | ⟨rfl,rfl,rfl⟩
  · exact L.append hu he hx hy hd h hl hn h1 hk hb (fun v' w' a1 a2 _ a4=>kk v' w' a1 a2 a4)
  · obtain ⟨i,z,hi,-⟩:=elT_spec he;have hrun:=run_append_owned_none (P:=P) w base T t e i sz hu hi v k xs h;refine L.val (x_append hx hy hrun) hd (kk v w (by simpa using h) (Gr.refl _ _) (.inl rfl))
theorem x_slog {E:Env} {w:World} {x y:Operand} {t s e:TypeId} {a:Option Addr} {c m:Nat} {k:IntKind} {i:Int} {j sz:Nat} (hu:P.underlying s=some (.slice e)) (hs:(P.info? e).map (·.size)=some sz)
    (hx:ev E x=.slice a m c) (hy:ev E y=.int k i) (hi:i=(j:Nat)) (hj:j≤m):
    X P (.slice s x (some y) none none) t E w (.slice (if c=j then a else a.map (·.add (j * sz))) (m - j) (c - j)) w:=by
  unfold X;subst hi;cases hi:P.info? e with
  | none=>simp [hi] at hs
  | some inf=>
    simp only [hi,Option.map_some,Option.some.injEq] at hs;simp [execOp,hx,hy,Instr.sliceAt,Instr.slice,Instr.sliceBounds,Instr.sliceBound,asIntOf,run_underlying hu,sizeOf,typeInfo,hi,hs,hj]
theorem add_add (b o i j:Nat):((⟨b,o,none⟩:Addr).add i).add j=⟨b,o+(i+j),none⟩:=by
  cases i <;> cases j <;> simp [Addr.add];omega
theorem own_take {w:World} {base:Nat} {e:TypeId} {sz:Nat} {a:Option Addr} {c k j:Nat} {xs:List Value} (h:Own w base e sz (.slice a k c) k xs) (hj:j≤k):Holds w (.slice a j c) j (xs.take (j * sz)):=by
  rcases h.open with ⟨h1,h2,h3⟩ | ⟨b,cap,tl,h1,-,-,-,hbx⟩
  · cases h1;right;have:j=0:=by omega
    subst this;simp
  · cases h1;refine .inl ⟨_,_,rfl,fun i x hi=>?_⟩;have hi':(xs++tl)[i]? = some x:=by
      rw [List.getElem?_take] at hi;split at hi
      · rw [List.getElem?_append_left (List.getElem?_eq_some_iff.1 hi).1];exact hi
      · cases hi
    exact hbx.news i x hi'
theorem own_drop {w:World} {base:Nat} {e:TypeId} {sz:Nat} {a:Option Addr} {c k j:Nat} {xs:List Value} (h:Own w base e sz (.slice a k c) k xs) (hj:j≤k):
    Holds w (.slice (if c=j then a else a.map (·.add (j * sz))) (k - j) (c - j)) (k - j) (xs.drop (j * sz)):=by
  have hlen:xs.length=k * sz:=h.1;rcases h.open with ⟨h1,h2,h3⟩ | ⟨b,cap,tl,h1,-,hkc,-,hbx⟩
  · cases h1;right;have:j=0:=by omega
    subst this;subst h3;simp
  · cases h1;left;split
    · next hcj=>
      have:k=j:=by omega
      subst this;refine ⟨_,_,rfl,fun i x hi=>?_⟩;rw [List.drop_of_length_le om_] at hi;cases hi
    · refine ⟨(⟨b,0,none⟩:Addr).add (j * sz),_,rfl,fun i x hi=>?_⟩;rw [List.getElem?_drop] at hi;have hi':(xs++tl)[j * sz+i]? = some x:=by rw [List.getElem?_append_left (List.getElem?_eq_some_iff.1 hi).1];exact hi
      rw [add_add,Nat.zero_add];exact hbx.cell hi'
end Go.Gx
namespace Go.Gx
theorem flat_take {rows:List (List Value)} (h:∀ i,i<rows.length→(rows.getD i []).length=5):∀ k,k≤rows.length→rows.flatten.take (k * 5)=(rows.take k).flatten∧rows.flatten.drop (k * 5)=(rows.drop k).flatten:=by
  induction rows with
  | nil=>intro k hk;simp
  | cons r rows ih=>
    intro k hk;have hr:r.length=5:=by simpa using h 0 (by simp)
    cases k with
    | zero=>simp
    | succ k=>
      have:=ih (fun i hi=>by simpa using h (i+1) (by simpa using hi)) k (by simpa using hk);have e1:(k+1) * 5=r.length+k * 5:=by omega
      simp only [List.flatten_cons,List.take_succ_cons,List.drop_succ_cons];rw [e1,List.take_length_add_append,List.drop_length_add_append,this.1,this.2];exact ⟨rfl,rfl⟩
theorem getD_ins {α : Type} {l:List α} {x d:α} {k i:Nat} (hk:k≤l.length):(l.take k++x :: l.drop k).getD i d=if i<k then l.getD i d else if i=k then x else l.getD (i - 1) d:=by
  have e:(l.take k).length=k:=by simp;omega
  simp only [List.getD_eq_getElem?_getD];split
  · next h=>rw [List.getElem?_append_left om_];simp [h]
  · next h=>
    rw [List.getElem?_append_right om_,e];split
    · next h'=>subst h';simp
    · next h'=>
      obtain ⟨j,hj⟩:∃ j,i - k=j+1:=⟨i - k - 1,by omega⟩;rw [hj,List.getElem?_cons_succ,List.getElem?_drop,show k+j=i - 1 by omega]
theorem ShsOwn.ins {A A':Nat→Prop} {w w':World} {base k:Nat} {e:TypeId} {v':Value} {l:List Sh} {rows:List (List Value)} {cs:List Value} {t:Sh} (h1:rows.length=l.length) (h3:∀ i,i<l.length→(rows.getD i []).length=5) (h4:∀ i,i<l.length→ShC A w (rows.getD i []) (l.getD i default))
    (hk:k≤l.length) (ht:ShC A w cs t) (ho:Own w' base e 5 v' (l.length+1) (rows.flatten.take (k * 5)++cs++rows.flatten.drop (k * 5))) (g:Bel w w') (hA:∀ j,A' j→A j):ShsOwn A' w' base e v' (l.take k++t :: l.drop k):=by
  have hc:∀ {cs s},ShC A w cs s→ShC A' w' cs s:=fun h=>(h.carry g).mono fun j _ hj=>hA j hj
  obtain ⟨f1,f2⟩:=flat_take (rows:=rows) (fun i hi=>h3 i om_) k om_;refine ⟨rows.take k++cs :: rows.drop k,by simp;omega,?_,fun i hi=>?_,fun i hi=>?_⟩
  · have e1:(rows.take k++cs :: rows.drop k).flatten=rows.flatten.take (k * 5)++cs++rows.flatten.drop (k * 5):=by rw [f1,f2];simp
    have e2:(l.take k++t :: l.drop k).length=l.length+1:=by simp;omega
    rw [e1,e2];exact ho
  · have hi:i<l.length+1:=by simp at hi;omega
    rw [getD_ins om_];split
    · exact h3 i om_
    · split
      · exact ht.len
      · exact h3 (i - 1) om_
  · have hi:i<l.length+1:=by simp at hi;omega
    rw [getD_ins om_,getD_ins hk];split
    · exact hc (h4 i om_)
    · split
      · exact hc ht
      · exact hc (h4 (i - 1) om_)
theorem rows_one {A:Nat→Prop} {w:World} {l:List Sh} {rows:List (List Value)} (h1:rows.length=l.length) (h4:∀ i,i<l.length→ShC A w (rows.getD i []) (l.getD i default)):∀ u∈rows.flatten,u.oneCell'=true:=by
  intro u hu;obtain ⟨r,hr,hur⟩:=List.mem_flatten.1 hu;obtain ⟨i,hi,rfl⟩:=List.getElem_of_mem hr;have:=(h4 i om_).one;rw [List.getD_eq_getElem?_getD,List.getElem?_eq_getElem hi] at this;exact this u hur
end Go.Gx
