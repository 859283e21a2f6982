/- In a region that draws and stores: what reads alone is taken first, by what holds all the time, or up to the first store. Conditions: none. -/
import Derived.MapKept
import Derived.Test.YtigcdmnhmfeioaaGgMapK
namespace Go.Gx
variable {P:Program} {ops:Array Oper} {Q:Exit→Act→World→Prop} {C0 C1:World→Prop}
def wpAnyD (P:Program) (ops:Array Oper) (C0 C1:World→Prop) (st:Nat) (Q:Exit→Act→World→Prop):Nat→Array Bool→Act→World→Prop
  | 0,listed,a,w=>C0 w∧(listed.getD st false=false→C1 w)∧Region.ready .any ops listed=[]∧Q .normal a w
  | f+1,listed,a,w=>C0 w∧(listed.getD st false=false→C1 w)∧(Region.ready .any ops listed=[]→Q .normal a w)∧∀ i∈Region.ready .any ops listed,wpOp P ops Q i (wpAnyD P ops C0 C1 st Q f (listed.setIfInBounds i true)) a w
theorem wpAnyD.any {st:Nat}:∀ (f:Nat) (listed:Array Bool) (a:Act) (w:World),wpAnyD P ops C0 C1 st Q f listed a w→wpAny P .any ops Q f listed a w
  | 0,_,_,_,h=>h.2.2
  | f+1,_,_,_,h=>⟨h.2.2.1,fun i hi=>wpOp_mono (fun _ _ h'=>wpAnyD.any f _ _ _ h') (h.2.2.2 i hi)⟩
theorem wpAnyD.here {st f:Nat} {listed:Array Bool} {a:Act} {w:World} (h:wpAnyD P ops C0 C1 st Q f listed a w):C0 w∧(listed.getD st false=false→C1 w):=by
  cases f <;> exact ⟨h.1,h.2.1⟩
theorem wpAnyD.take0 {i st:Nat} {oi:Oper} {v:Value} (hi:ops[i]? = some oi) (hsel:∀ (j:Nat) (o:Oper) cs b,ops[j]? = some o→o.op≠.select cs b)
    (hQ:∀ c a w,Q (.panic c) (a.put oi.dst v) w→Q (.panic c) a w) (hne:st≠i):
    ∀ (fuel:Nat) (listed:Array Bool) (a:Act) (w:World),
      (∀ j oj,ops[j]? = some oj→j≠i→listed.getD j true=false→(∀ e∈oj.after,Region.binds .any e=true→e.on≠i)→oi.apart ops oj=true)→
      i∈Region.ready .any ops listed→YF P ops C0 oi v a→
      wpAnyD P ops C0 C1 st Q fuel (listed.setIfInBounds i true) (a.put oi.dst v) w→wpAnyD P ops C0 C1 st Q (fuel+1) listed a w:=by
  intro fuel;induction fuel with
  | zero=>
    intro listed a w _ hr hy H;refine ⟨H.1,fun h=>H.2.1 (by rw [getD_set_ne false hne.symm];exact h),fun h=>(by rw [h] at hr;cases hr),fun j hj=>?_⟩;by_cases hji:j=i
    · subst hji;exact hy.take hi H.1 H
    · have:=ready_mono hj hji;rw [H.2.2.1] at this;cases this
  | succ fuel ih=>
    intro listed a w hfree hr hy H;have hun:=(mem_ready.1 hr).1;refine ⟨H.1,fun h=>H.2.1 (by rw [getD_set_ne false hne.symm];exact h),fun h=>(by rw [h] at hr;cases hr),fun j hj=>?_⟩;by_cases hji:j=i
    · subst hji;exact hy.take hi H.1 H
    · have h1:=H.2.2.2 j (ready_mono hj hji);obtain ⟨hjun,oj,hoj,hall⟩:=mem_ready.1 hj;have hnot:∀ e∈oj.after,Region.binds .any e=true→e.on≠i:=fun e he hb heq=>by
        have h1:=hall e he hb;rw [heq,unlisted hun] at h1;cases h1
      have h2:=wpOp_lateF hoj (hfree j oj hoj hji hjun hnot) (fun cs b=>hsel i oi cs b hi) (fun cs b=>hsel j oj cs b hoj) hQ hy h1;refine wpOp_mono (fun a' w' h3=>ih (listed.setIfInBounds j true) a' w' (fun k ok hk hki hu hno=>?_) (ready_mono hr (Ne.symm hji)) h3.1 ?_) h2
      · refine hfree k ok hk hki ?_ hno;by_cases hjk:j=k
        · subst hjk;exact hjun
        · rw [getD_set_ne true hjk] at hu;exact hu
      · rw [Array.setIfInBounds_comm _ _ hji];exact h3.2
theorem wpAnyD.take1 {i st:Nat} {oi ost:Oper} {v:Value} (hi:ops[i]? = some oi) (hsel:∀ (j:Nat) (o:Oper) cs b,ops[j]? = some o→o.op≠.select cs b)
    (hQ:∀ c a w,Q (.panic c) (a.put oi.dst v) w→Q (.panic c) a w) (hst:ops[st]? = some ost) (hdep:∃ e∈ost.after,Region.binds .any e=true∧e.on=i) (hne:st≠i):
    ∀ (fuel:Nat) (listed:Array Bool) (a:Act) (w:World),
      (listed.getD st false=true→listed.getD i false=true)→
      (∀ j oj,ops[j]? = some oj→j≠i→listed.getD j true=false→(∀ e∈oj.after,Region.binds .any e=true→e.on≠i)→oi.apart ops oj=true)→
      i∈Region.ready .any ops listed→YF P ops C1 oi v a→
      wpAnyD P ops C0 C1 st Q fuel (listed.setIfInBounds i true) (a.put oi.dst v) w→wpAnyD P ops C0 C1 st Q (fuel+1) listed a w:=by
  intro fuel;induction fuel with
  | zero=>
    intro listed a w hcl _ hr hy H;have hun:=(mem_ready.1 hr).1;have hst0:listed.getD st false=false:=by
      cases hh:listed.getD st false
      · rfl
      · have:=hcl hh;rw [unlisted hun] at this;cases this
    have hC:C1 w:=H.2.1 (by rw [getD_set_ne false hne.symm];exact hst0);refine ⟨H.1,fun _=>hC,fun h=>(by rw [h] at hr;cases hr),fun j hj=>?_⟩;by_cases hji:j=i
    · subst hji;exact hy.take hi hC H
    · have:=ready_mono hj hji;rw [H.2.2.1] at this;cases this
  | succ fuel ih=>
    intro listed a w hcl hfree hr hy H;have hun:=(mem_ready.1 hr).1;have hst0:listed.getD st false=false:=by
      cases hh:listed.getD st false
      · rfl
      · have:=hcl hh;rw [unlisted hun] at this;cases this
    have hC:C1 w:=H.2.1 (by rw [getD_set_ne false hne.symm];exact hst0);refine ⟨H.1,fun _=>hC,fun h=>(by rw [h] at hr;cases hr),fun j hj=>?_⟩;by_cases hji:j=i
    · subst hji;exact hy.take hi hC H
    · have h1:=H.2.2.2 j (ready_mono hj hji);obtain ⟨hjun,oj,hoj,hall⟩:=mem_ready.1 hj;have hnot:∀ e∈oj.after,Region.binds .any e=true→e.on≠i:=fun e he hb heq=>by
        have h1:=hall e he hb;rw [heq,unlisted hun] at h1;cases h1
      have hjst:j≠st:=fun e=>by
        subst e;rw [hst] at hoj;cases hoj;obtain ⟨e,he,hb,hon⟩:=hdep;exact hnot e he hb hon
      have h2:=wpOp_lateF hoj (hfree j oj hoj hji hjun hnot) (fun cs b=>hsel i oi cs b hi) (fun cs b=>hsel j oj cs b hoj) hQ hy h1;refine wpOp_mono (fun a' w' h3=>ih (listed.setIfInBounds j true) a' w' (fun h=>?_) (fun k ok hk hki hu hno=>?_) (ready_mono hr (Ne.symm hji)) h3.1 ?_) h2
      · rw [getD_set_ne false hjst,hst0] at h;cases h
      · refine hfree k ok hk hki ?_ hno;by_cases hjk:j=k
        · subst hjk;exact hjun
        · rw [getD_set_ne true hjk] at hu;exact hu
      · rw [Array.setIfInBounds_comm _ _ hji];exact h3.2
section
variable {n st:Nat} {K:List Deferred→Env→World→Prop} {D:List Deferred} {E:Env} {w:World}
def LAD (P:Program) (n:Nat) (ops:Array Oper) (C0 C1:World→Prop) (st:Nat) (K:List Deferred→Env→World→Prop) (fuel:Nat) (listed:Array Bool) (D:List Deferred) (E:Env) (w:World):Prop:=
  ∀ a,Fr D n a E→wpAnyD P ops C0 C1 st (lift n (nrm K)) fuel listed a w
theorem W.drawD {id:Nat} {l:List Oper} {Q:Post} (R R1:Nat→Prop) (st:Nat) (hm:P.follows .mixedOrders=true)
    (h:∀ w1,Bel w w1→LAD P n l.toArray (Gr R w1) (Gr R1 w1) st (Q .normal) l.length (Array.replicate l.length false) D E w1):W P n (.region id l.toArray true) Q D E w:=by
  intro a ha;refine wp_mono (wp_region_any (Q:=lift n (nrm (Q .normal))) hm ?_) ?_
  · have:=(h _ (bel_drew _) a ha).any;simpa using this
  · rintro e a' w' ⟨he,E',hE,rfl,hq⟩;exact ⟨he,E',hE,hq⟩
theorem LAD.take0 {fuel:Nat} {listed:Array Bool} {i d:Nat} {op:Op} {t:TypeId} {p:String} {af:Array Edge} {v:Value}
    (ho:ops[i]? = some ⟨some d,op,t,p,af,none⟩) (hs:Region.noSelect ops=true) (hf:Region.free .any ops listed i=true) (hr:(Region.ready .any ops listed).contains i=true) (hne:Nat.beq st i=false)
    (hx:∀ w,C0 w→X P op t E w v w) (hd:Nat.blt d n=true) (k:LAD P n ops C0 C1 st K fuel (listed.setIfInBounds i true) D (upd E d v) w):LAD P n ops C0 C1 st K (fuel+1) listed D E w:=by
  intro a ha;refine wpAnyD.take0 ho (Region.noSelect_spec hs) ?_ (fun h=>by subst h;simp at hne) fuel listed a w (Region.free_spec ho hf) (by simpa using hr) (.inl ⟨by simp [Region.wanted],fun w hw=>?_⟩) (k _ (ha.put v hd))
  · rintro c a w ⟨_,E,_,h,_⟩;cases h
  · have:=hx w hw;unfold X at this;rw [execOp_bare,ha.eval];exact this
theorem LAD.take1 {fuel:Nat} {listed:Array Bool} {i d:Nat} {op:Op} {t:TypeId} {p:String} {af:Array Edge} {v:Value}
    (ho:ops[i]? = some ⟨some d,op,t,p,af,none⟩) (hs:Region.noSelect ops=true) (hf:Region.free .any ops listed i=true) (hr:(Region.ready .any ops listed).contains i=true) (hne:Nat.beq st i=false)
    (hst:(ops[st]?).map (fun o=>o.after.any fun e=>Region.binds .any e && Nat.beq e.on i)=some true) (hl:listed.getD st true=false)
    (hx:∀ w,C1 w→X P op t E w v w) (hd:Nat.blt d n=true) (k:LAD P n ops C0 C1 st K fuel (listed.setIfInBounds i true) D (upd E d v) w):LAD P n ops C0 C1 st K (fuel+1) listed D E w:=by
  intro a ha;cases hos:ops[st]? with
  | none=>rw [hos] at hst;cases hst
  | some ost=>
    rw [hos] at hst;simp only [Option.map_some,Option.some.injEq] at hst;obtain ⟨e,he,hb⟩:=Array.any_eq_true'.1 hst;simp only [Bool.and_eq_true] at hb;refine wpAnyD.take1 ho (Region.noSelect_spec hs) ?_ hos ⟨e,he,hb.1,Nat.eq_of_beq_eq_true hb.2⟩ (fun h=>by subst h;simp at hne) fuel listed a w (fun h=>by rw [unlisted hl] at h;cases h) (Region.free_spec ho hf) (by simpa using hr)
      (.inl ⟨by simp [Region.wanted],fun w hw=>?_⟩) (k _ (ha.put v hd))
    · rintro c a w ⟨_,E,_,h,_⟩;cases h
    · have:=hx w hw;unfold X at this;rw [execOp_bare,ha.eval];exact this
theorem LAD.done {listed:Array Bool} (hr:Region.ready .any ops listed=[]) (hl:listed.getD st false=true) (hC:C0 w) (h:K D E w):LAD P n ops C0 C1 st K 0 listed D E w:=
  fun _ ha=>⟨hC,fun h0=>(by rw [hl] at h0;cases h0),hr,lift_mk (by simp) ha ⟨rfl,h⟩⟩
def LADs (P:Program) (n:Nat) (ops:Array Oper) (C0 C1:World→Prop) (st:Nat) (K:List Deferred→Env→World→Prop) (fuel:Nat) (listed:Array Bool) (D:List Deferred) (E:Env) (w:World):List Nat→Prop
  | []=>True
  | i :: r=>(∃ o,ops[i]? = some o∧L P n ops (thn (LAD P n ops C0 C1 st K fuel (listed.setIfInBounds i true)) (nrm K)) [o] D E w)∧LADs P n ops C0 C1 st K fuel listed D E w r
theorem LAD.step {fuel:Nat} {listed:Array Bool} {rs:List Nat} (hC0:C0 w) (hC1:listed.getD st false=false→C1 w) (hr:Region.ready .any ops listed=rs) (hne:rs≠[])
    (h:LADs P n ops C0 C1 st K fuel listed D E w rs):LAD P n ops C0 C1 st K (fuel+1) listed D E w:=by
  intro a ha;refine ⟨hC0,hC1,fun h0=>absurd (hr.symm.trans h0) hne,fun j hj=>?_⟩;rw [hr] at hj;have key:∀ rs:List Nat,LADs P n ops C0 C1 st K fuel listed D E w rs→j∈rs→∃ o,ops[j]? = some o∧L P n ops (thn (LAD P n ops C0 C1 st K fuel (listed.setIfInBounds j true)) (nrm K)) [o] D E w:=by
    intro rs;induction rs with
    | nil=>intro _ hi;cases hi
    | cons k r ih=>
      intro hL hi;rcases List.mem_cons.1 hi with rfl | hi
      · exact hL.1
      · exact ih hL.2 hi
  obtain ⟨o,ho,hLo⟩:=key rs h hj;have h1:=hLo a ha;have hl:∀ e a w,lift n (thn (LAD P n ops C0 C1 st K fuel (listed.setIfInBounds j true)) (nrm K)) e a w→Exit.then (wpAnyD P ops C0 C1 st (lift n (nrm K)) fuel (listed.setIfInBounds j true)) (lift n (nrm K)) e a w:=by
    intro e a w ⟨h1,E',h2,h3⟩;cases e <;> simp only [thn,Exit.then] at h3 ⊢;case normal=>exact h3 a h2
    case outgrown=>exact absurd rfl h1
    all_goals exact ⟨by simp,E',h2,h3⟩
  unfold wpOp;rw [ho];simp only;unfold wpList at h1;split
  · rename_i hw
    rw [if_pos hw] at h1;rcases h1 with h1 | ⟨_,a',w',h1⟩
    · refine .inl ?_;unfold Oper.wp at h1 ⊢;generalize (execOp a.eval o).run P w=res at h1 ⊢;cases res with
      | ok x w'=>
        cases x <;> simp only [Oper.upon,wpList] at h1 ⊢ <;> try exact hl _ _ _ h1
        · refine h1.mono fun e w'' h=>?_
          cases e with
          | returned v=>exact hl _ _ _ h
          | panicked c=>exact hl _ _ _ h
          | outgrown=>obtain ⟨a',w',h⟩:=h;exact absurd rfl h.1
        · exact h1.mono fun v w'' h=>hl _ _ _ h
      | halt x w'=>cases x <;> simp only [Oper.upon] at h1 ⊢ <;> try exact hl _ _ _ h1
    · exact absurd rfl h1.1
  · rename_i hw;rw [if_neg hw] at h1;exact hl _ _ _ h1
theorem LAD.step' {fuel:Nat} {listed:Array Bool} {rs:List Nat} (hC0:C0 w) (hl:listed.getD st false=true) (hr:Region.ready .any ops listed=rs) (hne:rs≠[])
    (h:LADs P n ops C0 C1 st K fuel listed D E w rs):LAD P n ops C0 C1 st K (fuel+1) listed D E w:=LAD.step hC0 (fun h0=>by rw [hl] at h0;cases h0) hr hne h
end
theorem Gr.keepR {R:Nat→Prop} {a b:World} (h:Gr R a b) {p:Addr} {v:Value} (hn:¬ R p.block) (hv:a.cell? p=some v):b.cell? p=some v:=h.cell hv hn
theorem Gr.into {R:Nat→Prop} {a b c:World} {k:Nat} (h:Gr R a b) (g:Gr (· = k) b c) (hk:R k):Gr R a c:=
  h.trans (g.mono fun j _ e=>by have e:j=k:=e;rw [e];exact hk)
theorem Gr.intoR {R S:Nat→Prop} {a b c:World} (h:Gr R a b) (g:Gr S b c) (hk:∀ k,S k→R k):Gr R a c:=h.trans (g.mono fun j _ e=>hk j e)
end Go.Gx
namespace Go.Gx
open Go.Proofs Go.MapKept
variable {P:Program} {n:Nat} {Q:Post} {D:List Deferred} {E:Env} {w:World}
theorem klaw_plain {κ : Type} [DecidableEq κ] {K:κ → Value} {V:κ → Prop} {kt:TypeId} {d:TypeDesc} (hd:P.underlying kt=some d) (hK:∀ x,V x→IsKey d (K x)) (hinj:∀ {a b:κ},K a=K b→a=b):KLaw P kt K V where
  check:=fun e x w hx=>run_checkKey hd (hK x hx) e 9999
  stays:=fun x w hx=>run_keyThatStays (d:=d) (hK x hx)
  find:=fun x es l w hx hl hn he=>by
    have hlen:es.length=l.length:=by simpa using congrArg List.length he
    have hkey:∀ j (h:j<es.length) (h2:j<l.length),es[j].key=K l[j].1∧es[j].val=l[j].2:=fun j h h2=>by
      have:=congrArg (fun q:List (Value × Value)=>q[j]?) he;simp only [List.getElem?_map,List.getElem?_eq_getElem h,List.getElem?_eq_getElem h2,Option.map_some,Option.some.injEq,kvM,Prod.mk.injEq] at this;exact this
    have hall:∀ e∈es,IsKey d e.key:=fun e h=>by
      obtain ⟨j,hj,rfl⟩:=List.getElem_of_mem h;rw [(hkey j hj om_).1];exact hK _ (hl _ (List.getElem_mem _))
    rcases findNow_spec (hK x hx) es 0 hall with ⟨h1,h2⟩ | ⟨j,e,h1,h2,h3⟩
    · rw [run_findKey hd h1,if_neg];intro hi;exact h2 _ (List.getElem_mem (by omega:idxK x l<es.length)) (by rw [(hkey _ om_ hi).1,idxK_key hi])
    · obtain ⟨hj,rfl⟩:=List.getElem?_eq_some_iff.1 h2;have hx':l[j].1=x:=hinj (by rw [← (hkey j hj om_).1,h3]);have hi:idxK x l<l.length:=idxK_mem.2 (hx' ▸ List.mem_map_of_mem (List.getElem_mem _));have hij:idxK x l=j:=by
        have h4:=idxK_key hi;have h5:=List.pairwise_iff_getElem.1 hn;rcases Nat.lt_trichotomy (idxK x l) j with h | h | h
        · exact (h5 _ _ (by simpa using hi) (by simp;omega) h (by simp [h4,hx'])).elim
        · exact h
        · exact (h5 _ _ (by simp;omega) (by simpa using hi) h (by simp [h4,hx'])).elim
      have hv:valK l j=(es[j]).val:=by rw [(hkey j hj om_).2,valK_at]
      rw [run_findKey hd h1,if_pos hi,hij,hv,Nat.zero_add]
theorem klawS {kt:TypeId} (hd:P.underlying kt=some .string):KLaw P kt S (fun _=>True):=klaw_plain hd (fun _ _=>trivial) (fun h=>S_inj h)
theorem MapAtK.str {V:Str→Prop} {b:Nat} {l:List (Str × Value)} (h:MapAtK S V w b l):MapAt w b l:=by
  obtain ⟨es,c,hb,h1,h2,h3,-⟩:=h;exact ⟨es,c,hb,h1,h2,h3⟩
theorem MapAtK.nodup {κ : Type} [DecidableEq κ] {K:κ → Value} {V:κ → Prop} {b:Nat} {l:List (κ × Value)} (h:MapAtK K V w b l):(l.map (·.1)).Nodup:=by
  obtain ⟨es,c,hb,h1,h2,h3,h4,h5⟩:=h;exact h5
section
variable {κ : Type} [DecidableEq κ] {K:κ → Value} {V:κ → Prop}
theorem x_look0 {t kt et:TypeId} {m x:Operand} {ty:TypeId} {b:Nat} {l:List (κ × Value)} {k:κ} {z v:Value} (hm:P.underlying t=some (.map kt et)) (hk:KLaw P kt K V) (hz:(P.info? et).bind (·.zero)=some z)
    (hx:ev E m=.map (some b)) (hy:ev E x=K k) (hV:V k) (hl:MapAtK K V w b l) (hv:(getK l k).getD z=v):X P (.lookup t m x false) ty E w v w:=by
  obtain ⟨es,c,hb,hes,-,-,hval,hnd⟩:=hl;have hf:=hk.find k es.toList l w hV hval hnd hes;have hzr:∀ w,(zeroValue et).run P w=.ok z w:=fun w=>by
    cases hi:P.info? et with
    | none=>simp [hi] at hz
    | some i=>
      simp [hi] at hz;simp [zeroValue,typeInfo,hi,hz]
  unfold X getK at *;by_cases h:idxK k l<l.length
  · rw [if_pos h] at hf hv;simp only [Option.getD_some] at hv;simp [execOp,hx,hy,Instr.lookup,run_underlying hm,MapKept.run_getObj_map hb,hk.check _ k w hV,hf,Result.andThen,hv]
  · rw [if_neg h] at hf hv;simp only [Option.getD_none] at hv;simp [execOp,hx,hy,Instr.lookup,run_underlying hm,MapKept.run_getObj_map hb,hk.check _ k w hV,hf,hzr,Result.andThen,hv]
omit [DecidableEq κ] in
omit [DecidableEq κ] in
end
section
variable {κ : Type} [DecidableEq κ] {K:κ → Value} {V:κ → Prop}
end
end Go.Gx
