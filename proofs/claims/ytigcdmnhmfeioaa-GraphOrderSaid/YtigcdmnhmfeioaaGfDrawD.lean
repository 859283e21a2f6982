/- In a region that draws and stores: what reads alone is taken first, by what holds all the time, or up to the first store. Conditions: none. -/
import Derived.MapKept
import Derived.Test.YtigcdmnhmfeioaaGfMapK
import Derived.Test.YtigcdmnhmfeioaaGfRec
import Derived.Test.YtigcdmnhmfeioaaGfSrtK
namespace Go.Gx
variable {P:Program} {ops:Array Oper} {Q:Exit→Act→World→Prop} {C0 C1:World→Prop}
def wpAnyD (P:Program) (ops:Array Oper) (C0 C1:World→Prop) (st:Nat) (Q:Exit→Act→World→Prop):Nat→Array Bool→Act→World→Prop
  | 0,listed,a,w=>C0 w∧(listed.getD st false=false→C1 w)∧Region.ready .any ops listed=[]∧Q .normal a w
  | f+1,listed,a,w=>C0 w∧(listed.getD st false=false→C1 w)∧(Region.ready .any ops listed=[]→Q .normal a w)∧∀ i∈Region.ready .any ops listed,wpOp P ops Q i (wpAnyD P ops C0 C1 st Q f (listed.setIfInBounds i true)) a w
theorem wpAnyD.any {st:Nat}:∀ (f:Nat) (listed:Array Bool) (a:Act) (w:World),wpAnyD P ops C0 C1 st Q f listed a w→wpAny P .any ops Q f listed a w
  | 0,_,_,_,h=>h.2.2
  | f+1,_,_,_,h=>⟨h.2.2.1,fun i hi=>wpOp_mono (fun _ _ h'=>wpAnyD.any f _ _ _ h') (h.2.2.2 i hi)⟩
theorem wpAnyD.here {st f:Nat} {listed:Array Bool} {a:Act} {w:World} (h:wpAnyD P ops C0 C1 st Q f listed a w):C0 w∧(listed.getD st false=false→C1 w):=by
  cases f <;> exact ⟨h.1,h.2.1⟩
theorem wpAnyD.take0 {i st:Nat} {oi:Oper} {v:Value} (hi:ops[i]? = some oi) (hsel:∀ (j:Nat) (o:Oper) cs b,ops[j]? = some o→o.op≠.select cs b)
    (hQ:∀ c a w,Q (.panic c) (a.put oi.dst v) w→Q (.panic c) a w) (hne:st≠i):
    ∀ (fuel:Nat) (listed:Array Bool) (a:Act) (w:World),
      (∀ j oj,ops[j]? = some oj→j≠i→listed.getD j true=false→(∀ e∈oj.after,Region.binds .any e=true→e.on≠i)→oi.apart ops oj=true)→
      i∈Region.ready .any ops listed→YF P ops C0 oi v a→
      wpAnyD P ops C0 C1 st Q fuel (listed.setIfInBounds i true) (a.put oi.dst v) w→wpAnyD P ops C0 C1 st Q (fuel+1) listed a w:=by
  intro fuel;induction fuel with
  | zero=>
    intro listed a w _ hr hy H;refine ⟨H.1,fun h=>H.2.1 (by rw [getD_set_ne false hne.symm];exact h),fun h=>(by rw [h] at hr;cases hr),fun j hj=>?_⟩;by_cases hji:j=i
    · subst hji;exact hy.take hi H.1 H
    · have:=ready_mono hj hji;rw [H.2.2.1] at this;cases this
  | succ fuel ih=>
    intro listed a w hfree hr hy H;have hun:=(mem_ready.1 hr).1;refine ⟨H.1,fun h=>H.2.1 (by rw [getD_set_ne false hne.symm];exact h),fun h=>(by rw [h] at hr;cases hr),fun j hj=>?_⟩;by_cases hji:j=i
    · subst hji;exact hy.take hi H.1 H
    · have h1:=H.2.2.2 j (ready_mono hj hji);obtain ⟨hjun,oj,hoj,hall⟩:=mem_ready.1 hj;have hnot:∀ e∈oj.after,Region.binds .any e=true→e.on≠i:=fun e he hb heq=>by
        have h1:=hall e he hb;rw [heq,unlisted hun] at h1;cases h1
      have h2:=wpOp_lateF hoj (hfree j oj hoj hji hjun hnot) (fun cs b=>hsel i oi cs b hi) (fun cs b=>hsel j oj cs b hoj) hQ hy h1;refine wpOp_mono (fun a' w' h3=>ih (listed.setIfInBounds j true) a' w' (fun k ok hk hki hu hno=>?_) (ready_mono hr (Ne.symm hji)) h3.1 ?_) h2
      · refine hfree k ok hk hki ?_ hno;by_cases hjk:j=k
        · subst hjk;exact hjun
        · rw [getD_set_ne true hjk] at hu;exact hu
      · rw [Array.setIfInBounds_comm _ _ hji];exact h3.2
theorem wpAnyD.take1 {i st:Nat} {oi ost:Oper} {v:Value} (hi:ops[i]? = some oi) (hsel:∀ (j:Nat) (o:Oper) cs b,ops[j]? = some o→o.op≠.select cs b)
    (hQ:∀ c a w,Q (.panic c) (a.put oi.dst v) w→Q (.panic c) a w) (hst:ops[st]? = some ost) (hdep:∃ e∈ost.after,Region.binds .any e=true∧e.on=i) (hne:st≠i):
    ∀ (fuel:Nat) (listed:Array Bool) (a:Act) (w:World),
      (listed.getD st false=true→listed.getD i false=true)→
      (∀ j oj,ops[j]? = some oj→j≠i→listed.getD j true=false→(∀ e∈oj.after,Region.binds .any e=true→e.on≠i)→oi.apart ops oj=true)→
      i∈Region.ready .any ops listed→YF P ops C1 oi v a→
      wpAnyD P ops C0 C1 st Q fuel (listed.setIfInBounds i true) (a.put oi.dst v) w→wpAnyD P ops C0 C1 st Q (fuel+1) listed a w:=by
  intro fuel;induction fuel with
  | zero=>
    intro listed a w hcl _ hr hy H;have hun:=(mem_ready.1 hr).1;have hst0:listed.getD st false=false:=by
      cases hh:listed.getD st false
      · rfl
      · have:=hcl hh;rw [unlisted hun] at this;cases this
    have hC:C1 w:=H.2.1 (by rw [getD_set_ne false hne.symm];exact hst0);refine ⟨H.1,fun _=>hC,fun h=>(by rw [h] at hr;cases hr),fun j hj=>?_⟩;by_cases hji:j=i
    · subst hji;exact hy.take hi hC H
    · have:=ready_mono hj hji;rw [H.2.2.1] at this;cases this
  | succ fuel ih=>
    intro listed a w hcl hfree hr hy H;have hun:=(mem_ready.1 hr).1;have hst0:listed.getD st false=false:=by
      cases hh:listed.getD st false
      · rfl
      · have:=hcl hh;rw [unlisted hun] at this;cases this
    have hC:C1 w:=H.2.1 (by rw [getD_set_ne false hne.symm];exact hst0);refine ⟨H.1,fun _=>hC,fun h=>(by rw [h] at hr;cases hr),fun j hj=>?_⟩;by_cases hji:j=i
    · subst hji;exact hy.take hi hC H
    · have h1:=H.2.2.2 j (ready_mono hj hji);obtain ⟨hjun,oj,hoj,hall⟩:=mem_ready.1 hj;have hnot:∀ e∈oj.after,Region.binds .any e=true→e.on≠i:=fun e he hb heq=>by
        have h1:=hall e he hb;rw [heq,unlisted hun] at h1;cases h1
      have hjst:j≠st:=fun e=>by
        subst e;rw [hst] at hoj;cases hoj;obtain ⟨e,he,hb,hon⟩:=hdep;exact hnot e he hb hon
      have h2:=wpOp_lateF hoj (hfree j oj hoj hji hjun hnot) (fun cs b=>hsel i oi cs b hi) (fun cs b=>hsel j oj cs b hoj) hQ hy h1;refine wpOp_mono (fun a' w' h3=>ih (listed.setIfInBounds j true) a' w' (fun h=>?_) (fun k ok hk hki hu hno=>?_) (ready_mono hr (Ne.symm hji)) h3.1 ?_) h2
      · rw [getD_set_ne false hjst,hst0] at h;cases h
      · refine hfree k ok hk hki ?_ hno;by_cases hjk:j=k
        · subst hjk;exact hjun
        · rw [getD_set_ne true hjk] at hu;exact hu
      · rw [Array.setIfInBounds_comm _ _ hji];exact h3.2
section
variable {n st:Nat} {K:List Deferred→Env→World→Prop} {D:List Deferred} {E:Env} {w:World}
def LAD (P:Program) (n:Nat) (ops:Array Oper) (C0 C1:World→Prop) (st:Nat) (K:List Deferred→Env→World→Prop) (fuel:Nat) (listed:Array Bool) (D:List Deferred) (E:Env) (w:World):Prop:=
  ∀ a,Fr D n a E→wpAnyD P ops C0 C1 st (lift n (nrm K)) fuel listed a w
theorem W.drawD {id:Nat} {l:List Oper} {Q:Post} (R R1:Nat→Prop) (st:Nat) (hm:P.follows .mixedOrders=true)
    (h:∀ w1,Bel w w1→LAD P n l.toArray (Gr R w1) (Gr R1 w1) st (Q .normal) l.length (Array.replicate l.length false) D E w1):W P n (.region id l.toArray true) Q D E w:=by
  intro a ha;refine wp_mono (wp_region_any (Q:=lift n (nrm (Q .normal))) hm ?_) ?_
  · have:=(h _ (bel_drew _) a ha).any;simpa using this
  · rintro e a' w' ⟨he,E',hE,rfl,hq⟩;exact ⟨he,E',hE,hq⟩
theorem LAD.take0 {fuel:Nat} {listed:Array Bool} {i d:Nat} {op:Op} {t:TypeId} {p:String} {af:Array Edge} {v:Value}
    (ho:ops[i]? = some ⟨some d,op,t,p,af,none⟩) (hs:Region.noSelect ops=true) (hf:Region.free .any ops listed i=true) (hr:(Region.ready .any ops listed).contains i=true) (hne:Nat.beq st i=false)
    (hx:∀ w,C0 w→X P op t E w v w) (hd:Nat.blt d n=true) (k:LAD P n ops C0 C1 st K fuel (listed.setIfInBounds i true) D (upd E d v) w):LAD P n ops C0 C1 st K (fuel+1) listed D E w:=by
  intro a ha;refine wpAnyD.take0 ho (Region.noSelect_spec hs) ?_ (fun h=>by subst h;simp at hne) fuel listed a w (Region.free_spec ho hf) (by simpa using hr) (.inl ⟨by simp [Region.wanted],fun w hw=>?_⟩) (k _ (ha.put v hd))
  · rintro c a w ⟨_,E,_,h,_⟩;cases h
  · have:=hx w hw;unfold X at this;rw [execOp_bare,ha.eval];exact this
theorem LAD.take1 {fuel:Nat} {listed:Array Bool} {i d:Nat} {op:Op} {t:TypeId} {p:String} {af:Array Edge} {v:Value}
    (ho:ops[i]? = some ⟨some d,op,t,p,af,none⟩) (hs:Region.noSelect ops=true) (hf:Region.free .any ops listed i=true) (hr:(Region.ready .any ops listed).contains i=true) (hne:Nat.beq st i=false)
    (hst:(ops[st]?).map (fun o=>o.after.any fun e=>Region.binds .any e && Nat.beq e.on i)=some true) (hl:listed.getD st true=false)
    (hx:∀ w,C1 w→X P op t E w v w) (hd:Nat.blt d n=true) (k:LAD P n ops C0 C1 st K fuel (listed.setIfInBounds i true) D (upd E d v) w):LAD P n ops C0 C1 st K (fuel+1) listed D E w:=by
  intro a ha;cases hos:ops[st]? with
  | none=>rw [hos] at hst;cases hst
  | some ost=>
    rw [hos] at hst;simp only [Option.map_some,Option.some.injEq] at hst;obtain ⟨e,he,hb⟩:=Array.any_eq_true'.1 hst;simp only [Bool.and_eq_true] at hb;refine wpAnyD.take1 ho (Region.noSelect_spec hs) ?_ hos ⟨e,he,hb.1,Nat.eq_of_beq_eq_true hb.2⟩ (fun h=>by subst h;simp at hne) fuel listed a w (fun h=>by rw [unlisted hl] at h;cases h) (Region.free_spec ho hf) (by simpa using hr)
      (.inl ⟨by simp [Region.wanted],fun w hw=>?_⟩) (k _ (ha.put v hd))
    · rintro c a w ⟨_,E,_,h,_⟩;cases h
    · have:=hx w hw;unfold X at this;rw [execOp_bare,ha.eval];exact this
theorem LAD.done {listed:Array Bool} (hr:Region.ready .any ops listed=[]) (hl:listed.getD st false=true) (hC:C0 w) (h:K D E w):LAD P n ops C0 C1 st K 0 listed D E w:=
  fun _ ha=>⟨hC,fun h0=>(by rw [hl] at h0;cases h0),hr,lift_mk (by simp) ha ⟨rfl,h⟩⟩
def LADs (P:Program) (n:Nat) (ops:Array Oper) (C0 C1:World→Prop) (st:Nat) (K:List Deferred→Env→World→Prop) (fuel:Nat) (listed:Array Bool) (D:List Deferred) (E:Env) (w:World):List Nat→Prop
  | []=>True
  | i :: r=>(∃ o,ops[i]? = some o∧L P n ops (thn (LAD P n ops C0 C1 st K fuel (listed.setIfInBounds i true)) (nrm K)) [o] D E w)∧LADs P n ops C0 C1 st K fuel listed D E w r
theorem LAD.step {fuel:Nat} {listed:Array Bool} {rs:List Nat} (hC0:C0 w) (hC1:listed.getD st false=false→C1 w) (hr:Region.ready .any ops listed=rs) (hne:rs≠[])
    (h:LADs P n ops C0 C1 st K fuel listed D E w rs):LAD P n ops C0 C1 st K (fuel+1) listed D E w:=by
  intro a ha;refine ⟨hC0,hC1,fun h0=>absurd (hr.symm.trans h0) hne,fun j hj=>?_⟩;rw [hr] at hj;have key:∀ rs:List Nat,LADs P n ops C0 C1 st K fuel listed D E w rs→j∈rs→∃ o,ops[j]? = some o∧L P n ops (thn (LAD P n ops C0 C1 st K fuel (listed.setIfInBounds j true)) (nrm K)) [o] D E w:=by
    intro rs;induction rs with
    | nil=>intro _ hi;cases hi
    | cons k r ih=>
      intro hL hi;rcases List.mem_cons.1 hi with rfl | hi
      · exact hL.1
      · exact ih hL.2 hi
  obtain ⟨o,ho,hLo⟩:=key rs h hj;have h1:=hLo a ha;have hl:∀ e a w,lift n (thn (LAD P n ops C0 C1 st K fuel (listed.setIfInBounds j true)) (nrm K)) e a w→Exit.then (wpAnyD P ops C0 C1 st (lift n (nrm K)) fuel (listed.setIfInBounds j true)) (lift n (nrm K)) e a w:=by
    intro e a w ⟨h1,E',h2,h3⟩;cases e <;> simp only [thn,Exit.then] at h3 ⊢;case normal=>exact h3 a h2
    case outgrown=>exact absurd rfl h1
    all_goals exact ⟨by simp,E',h2,h3⟩
  unfold wpOp;rw [ho];simp only;unfold wpList at h1;split
  · rename_i hw
    rw [if_pos hw] at h1;rcases h1 with h1 | ⟨_,a',w',h1⟩
    · refine .inl ?_;unfold Oper.wp at h1 ⊢;generalize (execOp a.eval o).run P w=res at h1 ⊢;cases res with
      | ok x w'=>
        cases x <;> simp only [Oper.upon,wpList] at h1 ⊢ <;> try exact hl _ _ _ h1
        · refine h1.mono fun e w'' h=>?_
          cases e with
          | returned v=>exact hl _ _ _ h
          | panicked c=>exact hl _ _ _ h
          | outgrown=>obtain ⟨a',w',h⟩:=h;exact absurd rfl h.1
        · exact h1.mono fun v w'' h=>hl _ _ _ h
      | halt x w'=>cases x <;> simp only [Oper.upon] at h1 ⊢ <;> try exact hl _ _ _ h1
    · exact absurd rfl h1.1
  · rename_i hw;rw [if_neg hw] at h1;exact hl _ _ _ h1
theorem LAD.step' {fuel:Nat} {listed:Array Bool} {rs:List Nat} (hC0:C0 w) (hl:listed.getD st false=true) (hr:Region.ready .any ops listed=rs) (hne:rs≠[])
    (h:LADs P n ops C0 C1 st K fuel listed D E w rs):LAD P n ops C0 C1 st K (fuel+1) listed D E w:=LAD.step hC0 (fun h0=>by rw [hl] at h0;cases h0) hr hne h
end
theorem Gr.keepR {R:Nat→Prop} {a b:World} (h:Gr R a b) {p:Addr} {v:Value} (hn:¬ R p.block) (hv:a.cell? p=some v):b.cell? p=some v:=h.cell hv hn
theorem Gr.into {R:Nat→Prop} {a b c:World} {k:Nat} (h:Gr R a b) (g:Gr (· = k) b c) (hk:R k):Gr R a c:=
  h.trans (g.mono fun j _ e=>by have e:j=k:=e;rw [e];exact hk)
theorem Gr.intoR {R S:Nat→Prop} {a b c:World} (h:Gr R a b) (g:Gr S b c) (hk:∀ k,S k→R k):Gr R a c:=h.trans (g.mono fun j _ e=>hk j e)
end Go.Gx
namespace Go.Gx
open Go.Proofs Go.MapKept
variable {P:Program} {n:Nat} {Q:Post} {D:List Deferred} {E:Env} {w:World}
theorem klaw_plain {κ : Type} [DecidableEq κ] {K:κ → Value} {V:κ → Prop} {kt:TypeId} {d:TypeDesc} (hd:P.underlying kt=some d) (hK:∀ x,V x→IsKey d (K x)) (hinj:∀ {a b:κ},K a=K b→a=b):KLaw P kt K V where
  check:=fun e x w hx=>run_checkKey hd (hK x hx) e 9999
  stays:=fun x w hx=>run_keyThatStays (d:=d) (hK x hx)
  find:=fun x es l w hx hl hn he=>by
    have hlen:es.length=l.length:=by simpa using congrArg List.length he
    have hkey:∀ j (h:j<es.length) (h2:j<l.length),es[j].key=K l[j].1∧es[j].val=l[j].2:=fun j h h2=>by
      have:=congrArg (fun q:List (Value × Value)=>q[j]?) he;simp only [List.getElem?_map,List.getElem?_eq_getElem h,List.getElem?_eq_getElem h2,Option.map_some,Option.some.injEq,kvM,Prod.mk.injEq] at this;exact this
    have hall:∀ e∈es,IsKey d e.key:=fun e h=>by
      obtain ⟨j,hj,rfl⟩:=List.getElem_of_mem h;rw [(hkey j hj om_).1];exact hK _ (hl _ (List.getElem_mem _))
    rcases findNow_spec (hK x hx) es 0 hall with ⟨h1,h2⟩ | ⟨j,e,h1,h2,h3⟩
    · rw [run_findKey hd h1,if_neg];intro hi;exact h2 _ (List.getElem_mem (by omega:idxK x l<es.length)) (by rw [(hkey _ om_ hi).1,idxK_key hi])
    · obtain ⟨hj,rfl⟩:=List.getElem?_eq_some_iff.1 h2;have hx':l[j].1=x:=hinj (by rw [← (hkey j hj om_).1,h3]);have hi:idxK x l<l.length:=idxK_mem.2 (hx' ▸ List.mem_map_of_mem (List.getElem_mem _));have hij:idxK x l=j:=by
        have h4:=idxK_key hi;have h5:=List.pairwise_iff_getElem.1 hn;rcases Nat.lt_trichotomy (idxK x l) j with h | h | h
        · exact (h5 _ _ (by simpa using hi) (by simp;omega) h (by simp [h4,hx'])).elim
        · exact h
        · exact (h5 _ _ (by simp;omega) (by simpa using hi) h (by simp [h4,hx'])).elim
      have hv:valK l j=(es[j]).val:=by rw [(hkey j hj om_).2,valK_at]
      rw [run_findKey hd h1,if_pos hi,hij,hv,Nat.zero_add]
theorem klawS {kt:TypeId} (hd:P.underlying kt=some .string):KLaw P kt S (fun _=>True):=klaw_plain hd (fun _ _=>trivial) (fun h=>S_inj h)
theorem MapAtK.str {V:Str→Prop} {b:Nat} {l:List (Str × Value)} (h:MapAtK S V w b l):MapAt w b l:=by
  obtain ⟨es,c,hb,h1,h2,h3,-⟩:=h;exact ⟨es,c,hb,h1,h2,h3⟩
theorem MapAtK.nodup {κ : Type} [DecidableEq κ] {K:κ → Value} {V:κ → Prop} {b:Nat} {l:List (κ × Value)} (h:MapAtK K V w b l):(l.map (·.1)).Nodup:=by
  obtain ⟨es,c,hb,h1,h2,h3,h4,h5⟩:=h;exact h5
section
variable {κ : Type} [DecidableEq κ] {K:κ → Value} {V:κ → Prop}
theorem x_look0 {t kt et:TypeId} {m x:Operand} {ty:TypeId} {b:Nat} {l:List (κ × Value)} {k:κ} {z v:Value} (hm:P.underlying t=some (.map kt et)) (hk:KLaw P kt K V) (hz:(P.info? et).bind (·.zero)=some z)
    (hx:ev E m=.map (some b)) (hy:ev E x=K k) (hV:V k) (hl:MapAtK K V w b l) (hv:(getK l k).getD z=v):X P (.lookup t m x false) ty E w v w:=by
  obtain ⟨es,c,hb,hes,-,-,hval,hnd⟩:=hl;have hf:=hk.find k es.toList l w hV hval hnd hes;have hzr:∀ w,(zeroValue et).run P w=.ok z w:=fun w=>by
    cases hi:P.info? et with
    | none=>simp [hi] at hz
    | some i=>
      simp [hi] at hz;simp [zeroValue,typeInfo,hi,hz]
  unfold X getK at *;by_cases h:idxK k l<l.length
  · rw [if_pos h] at hf hv;simp only [Option.getD_some] at hv;simp [execOp,hx,hy,Instr.lookup,run_underlying hm,MapKept.run_getObj_map hb,hk.check _ k w hV,hf,Result.andThen,hv]
  · rw [if_neg h] at hf hv;simp only [Option.getD_none] at hv;simp [execOp,hx,hy,Instr.lookup,run_underlying hm,MapKept.run_getObj_map hb,hk.check _ k w hV,hf,hzr,Result.andThen,hv]
omit [DecidableEq κ] in
omit [DecidableEq κ] in
end
section
variable {κ : Type} [DecidableEq κ] {K:κ → Value} {V:κ → Prop}
end
end Go.Gx
namespace Go.Gx
open Go.Proofs Go.Sort
theorem kgrb_en26:Go.Proofs.Enters Try.prog 26:=Go.Proofs.enters_of Try.func26 kr_ rfl
theorem kgrb_en47:Go.Proofs.Enters Try.prog 47:=Go.Proofs.enters_of Try.func47 kr_ rfl
theorem kgrb_en48:Go.Proofs.Enters Try.prog 48:=Go.Proofs.enters_of Try.func48 kr_ rfl
theorem kgrb_en57:Go.Proofs.Enters Try.prog 57:=Go.Proofs.enters_of Try.func57 kr_ rfl
theorem kgrb_oc9:oneCellT Try.prog 9=true:=by kernel_rfl
theorem kgrb_sz9:(Try.prog.info? 9).map (·.size)=some 1:=by kernel_rfl
theorem lt_bytesG (a b:Str):Op.bytesLess a b=ltStr a b:=by simp [Go.Proofs.bytesLess_eq,ltStr]
def LeftAt (base:Nat) (w:World) (v:Value) (l:List Str):Prop:=
  (l=[]∧∃ p cap,v=.slice p 0 cap∧cap≤9223372036854775807∧∀ a,p=some a→base≤a.block∧a.block<w.heap.size)∨
  ∃ b cap tl,base≤b∧v=.slice (some ⟨b,0,none⟩) l.length cap∧1≤l.length∧l.length≤cap∧cap≤9223372036854775807∧Box w b 9 (l.map S++tl)
theorem LeftAt.lt {base:Nat} {w:World} {v:Value} {l:List Str} (h:LeftAt base w v l) {j:Nat} (hj:some j=v.ownBlock):base≤j∧j<w.heap.size:=by
  rcases h with ⟨rfl,p,cap,rfl,h1,h2⟩ | ⟨b,cap,tl,h1,rfl,-,-,-,hb⟩
  · cases p with
    | none=>cases hj
    | some a=>cases hj;exact h2 a rfl
  · cases hj;exact ⟨h1,hb.lt⟩
theorem LeftAt.carryR {base:Nat} {R:Nat→Prop} {w w':World} {v:Value} {l:List Str} (h:LeftAt base w v l) (g:Gr R w w') (hR:∀ j,some j=v.ownBlock→¬ R j):LeftAt base w' v l:=by
  rcases h with ⟨rfl,p,cap,rfl,h1,h2⟩ | ⟨b,cap,tl,h1,rfl,h2,h3,h4,hb⟩
  · exact .inl ⟨rfl,p,cap,rfl,h1,fun a ha=>⟨(h2 a ha).1,Nat.lt_of_lt_of_le (h2 a ha).2 g.size⟩⟩
  · exact .inr ⟨b,cap,tl,h1,rfl,h2,h3,h4,hb.carryR g (hR b rfl)⟩
theorem LeftAt.carry {base:Nat} {w w':World} {v:Value} {l:List Str} (h:LeftAt base w v l) (g:Bel w w'):LeftAt base w' v l:=h.carryR g (fun _ _ f=>f)
theorem LeftAt.weak {base base':Nat} {w:World} {v:Value} {l:List Str} (h:LeftAt base w v l) (hb:base'≤base):LeftAt base' w v l:=by
  rcases h with ⟨rfl,p,cap,rfl,h1,h2⟩ | ⟨b,cap,tl,h1,h⟩
  · exact .inl ⟨rfl,p,cap,rfl,h1,fun a ha=>⟨Nat.le_trans hb (h2 a ha).1,(h2 a ha).2⟩⟩
  · exact .inr ⟨b,cap,tl,Nat.le_trans hb h1,h⟩
theorem LeftAt.shape {base:Nat} {w:World} {v:Value} {l:List Str} (h:LeftAt base w v l):∃ p cap,v=.slice p l.length cap∧l.length≤cap∧cap≤9223372036854775807:=by
  rcases h with ⟨rfl,p,cap,rfl,h1,h2⟩ | ⟨b,cap,tl,h1,rfl,h2,h3,h4,hb⟩
  · exact ⟨p,cap,rfl,Nat.zero_le _,h1⟩
  · exact ⟨_,cap,rfl,h3,h4⟩
theorem LeftAt.strs {base:Nat} {w:World} {v:Value} {l:List Str} (h:LeftAt base w v l) (hx:∀ x∈l,x.length≤9223372036854775807) (hl:l.length≤70368744177664) (A:Nat→Prop) (hA:∀ j,base≤j→¬ A j):StrsAt A w v l:=by
  rcases h with ⟨rfl,p,cap,rfl,h1,h2⟩ | ⟨b,cap,tl,h1,rfl,h2,h3,h4,hb⟩
  · exact StrsAt.nil _ _ _ _ h1
  · refine ⟨some ⟨b,0,none⟩,cap,rfl,h3,h4,hl,hx,fun _=>⟨b,0,rfl,hA b h1,fun i hi=>hb.cell0 ?_⟩⟩;rw [List.getElem?_append_left (by simpa using hi),List.getElem?_map,List.getD_eq_getElem?_getD,List.getElem?_eq_getElem hi];rfl
theorem compact_sorted {d:Array Str} {n:Nat} (hs:SortedIn ltStr 0 n d):∀ m,m≤n→Strict (Lib.compactUpTo d m)∧∀ x,x∈Lib.compactUpTo d m↔∃ j,j<m∧d[j]! = x
  | 0,_=>⟨by simp [Lib.compactUpTo,Strict],by simp [Lib.compactUpTo]⟩
  | m+1,hm=>by
    obtain ⟨h1,h2⟩:=compact_sorted hs m om_;rw [Lib.compactUpTo_succ];cases hk:Lib.keeps d m with
    | true=>
      have hk':m=0∨d[m]! ≠ d[m - 1]! := by unfold Lib.keeps at hk;simpa using hk
      rw [if_pos rfl];refine ⟨?_,fun x=>?_⟩
      · rw [Strict,List.pairwise_append];refine ⟨h1,List.pairwise_singleton _ _,fun a ha b hb=>?_⟩;rw [List.mem_singleton.1 hb];obtain ⟨j,hj,rfl⟩:=(h2 a).1 ha;have hne:=hk'.resolve_left om_;have h3:ltStr d[m]! d[m - 1]! = false:=hs (m - 1) m (Nat.zero_le _) om_ om_;have h4:=lt_tot h3 hne;rcases Nat.lt_or_ge j (m - 1) with hj1 | hj1
        · have h5:ltStr d[m - 1]! d[j]! = false:=hs j (m - 1) (Nat.zero_le _) hj1 om_;by_cases e:d[m - 1]! = d[j]!
          · rw [← e];exact h4
          · exact lt_tr (lt_tot h5 e) h4
        · rw [show j=m - 1 by omega];exact h4
      · rw [List.mem_append,h2,List.mem_singleton];constructor
        · rintro (⟨j,hj,e⟩ | e)
          · exact ⟨j,by omega,e⟩
          · exact ⟨m,by omega,e.symm⟩
        · rintro ⟨j,hj,e⟩;rcases Nat.lt_or_ge j m with h | h
          · exact .inl ⟨j,h,e⟩
          · rw [show j=m by omega] at e;exact .inr e.symm
    | false=>
      have hk':¬ (m=0∨d[m]! ≠ d[m - 1]!):=by unfold Lib.keeps at hk;simpa using hk
      rw [if_neg (by simp),List.append_nil];refine ⟨h1,fun x=>?_⟩;rw [h2];constructor
      · rintro ⟨j,hj,e⟩;exact ⟨j,by omega,e⟩
      · rintro ⟨j,hj,e⟩;rcases Nat.lt_or_ge j m with h | h
        · exact ⟨j,h,e⟩
        · have hm0:¬ m=0:=fun e=>hk' (.inl e)
          have he:d[m]! = d[m - 1]! := Classical.byContradiction fun e=>hk' (.inr e)
          rw [show j=m by omega,he] at e;exact ⟨m - 1,by omega,e⟩
theorem compact_once {d:Array Str} {ss:List Str} (hs:SortedIn ltStr 0 ss.length d) (hd:d.size=ss.length) (hp:d.toList.Perm ss):Lib.compact d.toList=onceL ss:=by
  have e:Lib.compact d.toList=Lib.compactUpTo d ss.length:=by
    unfold Lib.compact;rw [Array.toArray_toList,Array.length_toList,hd]
  rw [e];obtain ⟨h1,h2⟩:=compact_sorted hs ss.length (Nat.le_refl _);refine once_eq h1 fun x=>?_
  rw [h2,← hp.mem_iff];constructor
  · rintro ⟨j,hj,rfl⟩;rw [getElem!_pos d j om_];exact Array.getElem_mem_toList _
  · intro hx;obtain ⟨j,hj,rfl⟩:=List.getElem_of_mem hx;have hj':j<d.size:=by simpa using hj
    exact ⟨j,by omega,by rw [getElem!_pos d j hj'];simp⟩
theorem compact_new36 (base:Nat) (w:World) (v:Value) (ss:List Str) (hl:ss.length≤400000) (h:SortedNew base w v ss):Ret Try.prog 47 #[v] w fun r w'=>LeftAt base w' r (onceL ss)∧Gr (fun k=>base≤k) w w':=by
  rcases h with ⟨rfl,rfl⟩ | ⟨b,cap,tl,d,h1,h2,h3,rfl,h5,h6,h7,h8,h9⟩
  · exact Calls.mono (Try.slices_Compact_string_empty none 0 w) fun _ _ ⟨he,hw⟩=>⟨_,he,.inl ⟨rfl,none,0,rfl,by omega,fun a e=>(by cases e)⟩,hw ▸ Gr.refl _ _⟩
  · have hperm:d.toList.Perm ss:=by
      have h3:=h7.2.2;have e1:(d.extract 0 ss.length).toList=d.toList:=by simp [← h6]
      have e2:(ss.toArray.extract 0 ss.length).toList=ss:=by simp
      rw [e1,e2] at h3;exact h3
    have hdl:d.toList.length=ss.length:=by simpa using h6
    have hk:=Try.slices_Compact_string b 0 cap d.toList w (fun j hj=>by
      have hj:j<d.size:=by simpa using hj
      have e:d.toList.toArray[j]! = d[j]! := by simp
      rw [e];exact ⟨h5.at hj,h5.free _⟩) om_ om_
    rw [hdl,compact_once h8 h6 hperm] at hk;refine Calls.mono hk fun e w' ⟨he,q,hw⟩=>⟨_,he,?_,?_⟩
    · have hlo:(onceL ss).length≤ss.length:=strict_len_le (strict_once _).nodup fun x hx=>mem_once.1 hx
      have hpos:1≤(onceL ss).length:=by
        cases ss with
        | nil=>simp at h2
        | cons x l=>exact List.length_pos_of_mem (mem_once.2 (List.mem_cons_self:x∈x :: l))
      refine .inr ⟨b,cap,(List.replicate (ss.length - (onceL ss).length) ([]:Str)).map S++tl,h1,rfl,hpos,by omega,h9,?_⟩;subst hw;have h10:=(row_put h5 (d':=(onceL ss++List.replicate (ss.length - (onceL ss).length) []).toArray) (by simp;omega) q).2;rw [← List.append_assoc,← List.map_append];have h11:Box (putRow encStr (Sort.ahead w q) b 0 (onceL ss++List.replicate (ss.length - (onceL ss).length) []).toArray) b 9 ([]++(onceL ss++List.replicate (ss.length - (onceL ss).length) []).toArray.toList.map S++tl):=h10;simpa using h11
    · subst hw;exact (gr_put q).mono fun k _ e=>by have e:k=b:=e;omega
theorem sorted36 (A0:Nat→Prop) (v:Value) (ss:List Str) (w:World) (h0:StrsAt A0 w v ss) (hl:ss.length≤400000):
    Ret Try.prog 34 #[v] w fun r w'=>LeftAt w.heap.size w' r (onceL ss)∧Bel w w':=by
  obtain ⟨A,h,hU⟩:∃ A:Nat→Prop,StrsAt A w v ss∧(∀ k,w.heap.size≤k→A k):=⟨_,h0.up,fun _=>.inr⟩;obtain ⟨p,cap,rfl,-⟩:=id h;refine ret_of_W Try.func34 rfl (Nat.le_of_ble_eq_true rfl) (res1 rfl) ?_;have hB:=Gr.refl (fun _=>False) w;refine W.seq (W.region (L.val (x_as (v:=.slice _ _ _) rfl) rfl ?_));refine L.nil (thn_n (W.seq (W.region (L.val (x_mv (v:=.slice _ _ _) rfl) rfl ?_))));refine L.ret (x_call kgrb_en48 rfl) rfl (values_ok _ _ _ _) ?_;rintro _ w4 ⟨rfl,bx4,hw⟩;have hB:=hB.carry hw;have h:=h.carry hw;have hs4:=hB.size;refine L.ret (x_call kgrb_en26 rfl) rfl (sorted_ok _ _ ss _ kgrb_en57 om_ (fun _ h=>List.Perm.of_eq h) (vals_seq A _ _ _ ss _ (fun k hk=>hU k (by have:=hB.size;omega)) bx4.lt (bx4.cell (i:=0) rfl) h (fun k hk=>hU k (by have:=hB.size;omega)))) ?_;rintro v5 w5 ⟨hN,hw⟩;have hB:=hB.carry hw;have h:=h.carry hw;refine L.ret (x_call kgrb_en47 rfl) rfl (compact_new36 _ _ _ ss hl hN) ?_;rintro v6 w6 ⟨hL,hg⟩;have hB:=hB.step hg (fun i hi e=>by omega);obtain ⟨p6,c6,rfl,-⟩:=hL.shape;refine L.val (x_as (v:=.slice _ _ _) rfl) rfl ?_;refine L.nil (thn_n (W.ret (fin_mk (.inr rfl) ?_)));exact ⟨hL.weak hs4,hB⟩
theorem contains_take {l:List Str} {x:Str} {k:Nat} (h:k<l.length):(l.take (k+1)).contains x=((l.take k).contains x || l.getD k [] == x):=by
  rw [take_snoc (d:=[]) h,Bool.eq_iff_iff,Bool.or_eq_true,List.contains_iff_mem,List.contains_iff_mem,List.mem_append,List.mem_singleton,beq_iff_eq];exact or_congr Iff.rfl eq_comm
def atI (l:List Str) (x:Str):Int:=if l.contains x then (l.idxOf x:Int) else -1
theorem idx_hit {l:List Str} {x:Str} {k:Nat} (hk:k<l.length) (h:l.getD k []=x) (hc:(l.take k).contains x=false):l.idxOf x=k:=by
  have h1:x∉l.take k:=by rw [← List.contains_iff_mem,hc];simp
  have h2:l=l.take k++x :: l.drop (k+1):=by
    conv=>lhs;rw [← List.take_append_drop k l]
    rw [List.drop_eq_getElem_cons hk,← h,List.getD_eq_getElem?_getD,List.getElem?_eq_getElem hk];rfl
  rw [h2,List.idxOf_append,if_neg h1];simp;omega
theorem at36 (A:Nat→Prop) (v:Value) (l:List Str) (x:Str) (w:World) (h:StrsAt A w v l):
    Ret Try.prog 19 #[v,S x] w fun r w'=>r=.int .i64 (atI l x)∧Bel w w':=by
  obtain ⟨p,cap,rfl,-,-,hl3,-⟩:=id h;refine ret_of_W Try.func19 rfl (Nat.le_of_ble_eq_true rfl) (res1 rfl) ?_;have hB:=Gr.refl (fun _=>False) w;refine W.seq (W.region (L.val (x_as (v:=.int _ _) rfl) rfl ?_));refine L.nil (thn_n (W.seq (W.seq (W.region (L.val (x_as (v:=.int _ _) rfl) rfl ?_)))));refine L.nil (thn_n (W.block (W.loop (fun m' E w'=>∃ (k:Nat),m'=l.length - k∧E 0=.slice p l.length cap∧E 1=S x∧E 5=.int .i64 (k:Nat)∧(k≤l.length)∧(Bel w w')∧(StrsAt A w' (.slice p l.length cap) l)∧((l.take k).contains x=false)) (l.length) ?_ ?_)))
  ·exact ⟨0,by omega,vi_,vi_,vi_,ao_,ao_,ao_,(by rfl)⟩
  ·rintro _ E wL6 ⟨k,em,e0,e1,e5,hk,hB,h,hc⟩;rw [upd_self e0,upd_self e1,upd_self e5];refine W.seq (W.seq (W.region (L.val (x_mv (v:=.int _ _) rfl) rfl ?_)));refine L.val (x_mv (v:=.slice _ _ _) rfl) rfl ?_;refine L.val (x_len_slice Try.underlying23 rfl) rfl ?_;refine L.val (x_lss rfl rfl) rfl ?_;refine L.nil (thn_n (W.cond (b:=_) rfl (fun g9=>?_) (fun g9=>?_)))
   ·have h9:=of_decide_eq_true g9;have hlt:k<l.length:=by omega
    obtain ⟨b,o,rfl,hcl⟩:=h.elem hlt;refine W.skip (thn_n (W.seq (W.block (W.seq (W.region (L.val (x_mv (v:=.slice _ _ _) rfl) rfl ?_))))));refine L.val (x_mv (v:=.int _ _) rfl) rfl ?_;refine L.val (x_ia1 (j:=k) Try.underlying23 kgrb_sz9 rfl rfl om_ om_) rfl ?_;refine L.val (x_ld (v:=S _) kgrb_oc9 rfl hcl) rfl ?_;refine L.val (x_mv (v:=S _) rfl) rfl ?_;refine L.val (x_eqs rfl rfl) rfl ?_;refine L.nil (thn_n (W.cond (b:=_) rfl (fun g17=>?_) (fun g17=>?_)))
    ·have h17:=seq_t g17;refine W.seq (W.region (L.val (x_mv (v:=.int _ _) rfl) rfl ?_));refine L.val (x_as (v:=.int _ _) rfl) rfl ?_;refine L.nil (thn_n (W.ret (blk_r (thn_r (thn_r (blk_r (thn_r (fin_mk (.inr rfl) ?_))))))));refine ⟨?_,hB⟩;have hm:l.contains x=true:=by
       rw [List.contains_iff_mem,← h17,List.getD_eq_getElem?_getD,List.getElem?_eq_getElem hlt];exact List.getElem_mem _
     unfold atI;rw [if_pos hm,idx_hit hlt h17 hc];rfl
    ·have h17:=seq_f g17;refine W.skip (blk_n (thn_n (W.region (L.val (x_mv (v:=.int _ _) rfl) rfl ?_))));refine L.val (x_add rfl rfl (wr64 om_)) rfl ?_;refine L.val (x_as (v:=.int _ _) rfl) rfl ?_;refine L.nil (thn_n ⟨rfl,?_⟩);refine ⟨_,?_,k+1,rfl,vi_,vi_,vi_,ao_,ao_,ao_,(by rw [contains_take hlt,hc];simpa using h17)⟩;omega
   ·have h9:=dlt_f g9;refine W.exit (thn_x (thn_x (blk_hit ?_)));refine thn_n (W.seq (W.region (L.val (x_as (v:=.int _ _) rfl) rfl ?_)));refine L.nil (thn_n (W.ret (fin_mk (.inr rfl) ?_)));rw [show k=l.length by omega,List.take_length] at hc;refine ⟨?_,hB⟩;unfold atI;rw [hc];rfl
theorem strs_take {A:Nat→Prop} {w:World} {p:Option Addr} {cap k:Nat} {l:List Str} (h:StrsAt A w (.slice p l.length cap) l) (hk:k≤l.length):HoldsN w (.slice p k cap) k ((l.take k).map S):=by
  cases p with
  | none=>
    have hl:l=[]:=Classical.byContradiction fun e=>by
      obtain ⟨p',cap',hv,-,-,-,-,h4⟩:=h;cases hv;obtain ⟨b,o,e2,-⟩:=h4 e;cases e2
    subst hl;have:k=0:=by simpa using hk
    subst this;exact .inr ⟨cap,rfl,rfl,rfl⟩
  | some a=>
    refine .inl ⟨a,cap,rfl,fun j x hj=>?_⟩;have hjk:j<k:=by
      have:=(List.getElem?_eq_some_iff.1 hj).1;rw [List.length_map,List.length_take] at this;omega
    obtain ⟨b,o,e,hc⟩:=h.elem (show j<l.length by omega);cases e;rw [List.getElem?_map,List.getElem?_take,if_pos hjk,List.getElem?_eq_getElem (show j<l.length by omega)] at hj;rw [List.getD_eq_getElem?_getD,List.getElem?_eq_getElem (show j<l.length by omega)] at hc;cases hj;cases j with
    | zero=>simpa [Addr.add] using hc
    | succ j=>simpa [Addr.add] using hc
theorem StrsAt.old {A:Nat→Prop} {w w':World} {v:Value} {l:List Str} (h:StrsAt A w v l) (g:Bel w w'):StrsAt (fun k=>A k∨w.heap.size≤k) w' v l:=h.up.carry g
end Go.Gx
