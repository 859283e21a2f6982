/- In a region that draws and stores: what reads alone is taken first, by what holds all the time, or up to the first store. Conditions: none. -/
import Derived.Test.YtjhcicmlpnkgeaaCeSort3
import Derived.Test.YtjhcicmlpnkgeaaCeOwn
import Derived.Test.YtjhcicmlpnkgeaaCeLaySort
import Derived.Test.YtjhcicmlpnkgeaaCeEq
namespace Go.Gx
variable {P:Program} {ops:Array Oper} {Q:Exit→Act→World→Prop} {C0 C1:World→Prop}
def wpAnyD (P:Program) (ops:Array Oper) (C0 C1:World→Prop) (st:Nat) (Q:Exit→Act→World→Prop):Nat→Array Bool→Act→World→Prop
  | 0,listed,a,w=>C0 w∧(listed.getD st false=false→C1 w)∧Region.ready .any ops listed=[]∧Q .normal a w
  | f+1,listed,a,w=>C0 w∧(listed.getD st false=false→C1 w)∧(Region.ready .any ops listed=[]→Q .normal a w)∧∀ i∈Region.ready .any ops listed,wpOp P ops Q i (wpAnyD P ops C0 C1 st Q f (listed.setIfInBounds i true)) a w
theorem wpAnyD.any {st:Nat}:∀ (f:Nat) (listed:Array Bool) (a:Act) (w:World),wpAnyD P ops C0 C1 st Q f listed a w→wpAny P .any ops Q f listed a w
  | 0,_,_,_,h=>h.2.2
  | f+1,_,_,_,h=>⟨h.2.2.1,fun i hi=>wpOp_mono (fun _ _ h'=>wpAnyD.any f _ _ _ h') (h.2.2.2 i hi)⟩
theorem wpAnyD.here {st f:Nat} {listed:Array Bool} {a:Act} {w:World} (h:wpAnyD P ops C0 C1 st Q f listed a w):C0 w∧(listed.getD st false=false→C1 w):=by
  cases f <;> exact ⟨h.1,h.2.1⟩
theorem wpAnyD.take0 {i st:Nat} {oi:Oper} {v:Value} (hi:ops[i]? = some oi) (hsel:∀ (j:Nat) (o:Oper) cs b,ops[j]? = some o→o.op≠.select cs b)
    (hQ:∀ c a w,Q (.panic c) (a.put oi.dst v) w→Q (.panic c) a w) (hne:st≠i):
    ∀ (fuel:Nat) (listed:Array Bool) (a:Act) (w:World),
      (∀ j oj,ops[j]? = some oj→j≠i→listed.getD j true=false→(∀ e∈oj.after,Region.binds .any e=true→e.on≠i)→oi.apart ops oj=true)→
      i∈Region.ready .any ops listed→YF P ops C0 oi v a→
      wpAnyD P ops C0 C1 st Q fuel (listed.setIfInBounds i true) (a.put oi.dst v) w→wpAnyD P ops C0 C1 st Q (fuel+1) listed a w:=by
  intro fuel;induction fuel with
  | zero=>
    intro listed a w _ hr hy H;refine ⟨H.1,fun h=>H.2.1 (by rw [getD_set_ne false hne.symm];exact h),fun h=>(by rw [h] at hr;cases hr),fun j hj=>?_⟩;by_cases hji:j=i
    · subst hji;exact hy.take hi H.1 H
    · have:=ready_mono hj hji;rw [H.2.2.1] at this;cases this
  | succ fuel ih=>
    intro listed a w hfree hr hy H;have hun:=(mem_ready.1 hr).1;refine ⟨H.1,fun h=>H.2.1 (by rw [getD_set_ne false hne.symm];exact h),fun h=>(by rw [h] at hr;cases hr),fun j hj=>?_⟩;by_cases hji:j=i
    · subst hji;exact hy.take hi H.1 H
    · have h1:=H.2.2.2 j (ready_mono hj hji);obtain ⟨hjun,oj,hoj,hall⟩:=mem_ready.1 hj;have hnot:∀ e∈oj.after,Region.binds .any e=true→e.on≠i:=fun e he hb heq=>by
        have h1:=hall e he hb;rw [heq,unlisted hun] at h1;cases h1
      have h2:=wpOp_lateF hoj (hfree j oj hoj hji hjun hnot) (fun cs b=>hsel i oi cs b hi) (fun cs b=>hsel j oj cs b hoj) hQ hy h1;refine wpOp_mono (fun a' w' h3=>ih (listed.setIfInBounds j true) a' w' (fun k ok hk hki hu hno=>?_) (ready_mono hr (Ne.symm hji)) h3.1 ?_) h2
      · refine hfree k ok hk hki ?_ hno;by_cases hjk:j=k
        · subst hjk;exact hjun
        · rw [getD_set_ne true hjk] at hu;exact hu
      · rw [Array.setIfInBounds_comm _ _ hji];exact h3.2
section
variable {n st:Nat} {K:List Deferred→Env→World→Prop} {D:List Deferred} {E:Env} {w:World}
def LAD (P:Program) (n:Nat) (ops:Array Oper) (C0 C1:World→Prop) (st:Nat) (K:List Deferred→Env→World→Prop) (fuel:Nat) (listed:Array Bool) (D:List Deferred) (E:Env) (w:World):Prop:=
  ∀ a,Fr D n a E→wpAnyD P ops C0 C1 st (lift n (nrm K)) fuel listed a w
theorem W.drawD {id:Nat} {l:List Oper} {Q:Post} (R R1:Nat→Prop) (st:Nat) (hm:P.follows .mixedOrders=true)
    (h:∀ w1,Bel w w1→LAD P n l.toArray (Gr R w1) (Gr R1 w1) st (Q .normal) l.length (Array.replicate l.length false) D E w1):W P n (.region id l.toArray true) Q D E w:=by
  intro a ha;refine wp_mono (wp_region_any (Q:=lift n (nrm (Q .normal))) hm ?_) ?_
  · have:=(h _ (bel_drew _) a ha).any;simpa using this
  · rintro e a' w' ⟨he,E',hE,rfl,hq⟩;exact ⟨he,E',hE,hq⟩
theorem LAD.take0 {fuel:Nat} {listed:Array Bool} {i d:Nat} {op:Op} {t:TypeId} {p:String} {af:Array Edge} {v:Value}
    (ho:ops[i]? = some ⟨some d,op,t,p,af,none⟩) (hs:Region.noSelect ops=true) (hf:Region.free .any ops listed i=true) (hr:(Region.ready .any ops listed).contains i=true) (hne:Nat.beq st i=false)
    (hx:∀ w,C0 w→X P op t E w v w) (hd:Nat.blt d n=true) (k:LAD P n ops C0 C1 st K fuel (listed.setIfInBounds i true) D (upd E d v) w):LAD P n ops C0 C1 st K (fuel+1) listed D E w:=by
  intro a ha;refine wpAnyD.take0 ho (Region.noSelect_spec hs) ?_ (fun h=>by subst h;simp at hne) fuel listed a w (Region.free_spec ho hf) (by simpa using hr) (.inl ⟨by simp [Region.wanted],fun w hw=>?_⟩) (k _ (ha.put v hd))
  · rintro c a w ⟨_,E,_,h,_⟩;cases h
  · have:=hx w hw;unfold X at this;rw [execOp_bare,ha.eval];exact this
theorem LAD.done {listed:Array Bool} (hr:Region.ready .any ops listed=[]) (hl:listed.getD st false=true) (hC:C0 w) (h:K D E w):LAD P n ops C0 C1 st K 0 listed D E w:=
  fun _ ha=>⟨hC,fun h0=>(by rw [hl] at h0;cases h0),hr,lift_mk (by simp) ha ⟨rfl,h⟩⟩
def LADs (P:Program) (n:Nat) (ops:Array Oper) (C0 C1:World→Prop) (st:Nat) (K:List Deferred→Env→World→Prop) (fuel:Nat) (listed:Array Bool) (D:List Deferred) (E:Env) (w:World):List Nat→Prop
  | []=>True
  | i :: r=>(∃ o,ops[i]? = some o∧L P n ops (thn (LAD P n ops C0 C1 st K fuel (listed.setIfInBounds i true)) (nrm K)) [o] D E w)∧LADs P n ops C0 C1 st K fuel listed D E w r
theorem LAD.step {fuel:Nat} {listed:Array Bool} {rs:List Nat} (hC0:C0 w) (hC1:listed.getD st false=false→C1 w) (hr:Region.ready .any ops listed=rs) (hne:rs≠[])
    (h:LADs P n ops C0 C1 st K fuel listed D E w rs):LAD P n ops C0 C1 st K (fuel+1) listed D E w:=by
  intro a ha;refine ⟨hC0,hC1,fun h0=>absurd (hr.symm.trans h0) hne,fun j hj=>?_⟩;rw [hr] at hj;have key:∀ rs:List Nat,LADs P n ops C0 C1 st K fuel listed D E w rs→j∈rs→∃ o,ops[j]? = some o∧L P n ops (thn (LAD P n ops C0 C1 st K fuel (listed.setIfInBounds j true)) (nrm K)) [o] D E w:=by
    intro rs;induction rs with
    | nil=>intro _ hi;cases hi
    | cons k r ih=>
      intro hL hi;rcases List.mem_cons.1 hi with rfl | hi
      · exact hL.1
      · exact ih hL.2 hi
  obtain ⟨o,ho,hLo⟩:=key rs h hj;have h1:=hLo a ha;have hl:∀ e a w,lift n (thn (LAD P n ops C0 C1 st K fuel (listed.setIfInBounds j true)) (nrm K)) e a w→Exit.then (wpAnyD P ops C0 C1 st (lift n (nrm K)) fuel (listed.setIfInBounds j true)) (lift n (nrm K)) e a w:=by
    intro e a w ⟨h1,E',h2,h3⟩;cases e <;> simp only [thn,Exit.then] at h3 ⊢;case normal=>exact h3 a h2
    case outgrown=>exact absurd rfl h1
    all_goals exact ⟨by simp,E',h2,h3⟩
  unfold wpOp;rw [ho];simp only;unfold wpList at h1;split
  · rename_i hw
    rw [if_pos hw] at h1;rcases h1 with h1 | ⟨_,a',w',h1⟩
    · refine .inl ?_;unfold Oper.wp at h1 ⊢;generalize (execOp a.eval o).run P w=res at h1 ⊢;cases res with
      | ok x w'=>
        cases x <;> simp only [Oper.upon,wpList] at h1 ⊢ <;> try exact hl _ _ _ h1
        · refine h1.mono fun e w'' h=>?_
          cases e with
          | returned v=>exact hl _ _ _ h
          | panicked c=>exact hl _ _ _ h
          | outgrown=>obtain ⟨a',w',h⟩:=h;exact absurd rfl h.1
        · exact h1.mono fun v w'' h=>hl _ _ _ h
      | halt x w'=>cases x <;> simp only [Oper.upon] at h1 ⊢ <;> try exact hl _ _ _ h1
    · exact absurd rfl h1.1
  · rename_i hw;rw [if_neg hw] at h1;exact hl _ _ _ h1
end
theorem Gr.keepRowR {R:Nat→Prop} {a b:World} (h:Gr R a b) {bl o k:Nat} {vs:List Value} (hn:¬ R bl) (hl:vs.length=k) (hc:∀ j,j<k→a.cell? ⟨bl,o+j,none⟩=vs[j]?):∀ j,j<k→b.cell? ⟨bl,o+j,none⟩=vs[j]? := fun j hj=>by
  have hv:=List.getElem?_eq_getElem (l:=vs) (i:=j) om_;rw [hv];exact h.cell (by rw [hc j hj,hv]) hn
theorem Gr.keepR {R:Nat→Prop} {a b:World} (h:Gr R a b) {p:Addr} {v:Value} (hn:¬ R p.block) (hv:a.cell? p=some v):b.cell? p=some v:=h.cell hv hn
theorem Gr.into {R:Nat→Prop} {a b c:World} {k:Nat} (h:Gr R a b) (g:Gr (· = k) b c) (hk:R k):Gr R a c:=
  h.trans (g.mono fun j _ e=>by have e:j=k:=e;rw [e];exact hk)
theorem Gr.intoR {R S:Nat→Prop} {a b c:World} (h:Gr R a b) (g:Gr S b c) (hk:∀ k,S k→R k):Gr R a c:=h.trans (g.mono fun j _ e=>hk j e)
end Go.Gx
namespace Go.Gx
open Go.Proofs
theorem resST {P:Program} {fn:Func} {t t2:Tmp} {T:TypeId} {E:Env} {w:World} {b n:Nat} {T':TypeId} {cs:List Value} {v:Value} (hr:fn.results=#[.cell t T,.tmp t2]) (ht:aggT P T n=true) (hE:E t=.pointer (some ⟨b,0,none⟩)) (hE2:E t2=v) (hb:Box w b T' cs) (hl:cs.length=n):
    ∀ a:Array Value,(∀ t,a.getD t undef=E t)→(results fn a).run P w=.ok (.tuple #[.agg cs.toArray,v]) w:=by
  intro a ha;have hg:a.getD t undef=.pointer (some ⟨b,0,none⟩):=by rw [ha,hE]
  have hg2:a.getD t2 undef=v:=by rw [ha,hE2]
  have hload:(loadVar T ⟨b,0,none⟩).run P w=.ok (.agg cs.toArray) w:=by
    unfold aggT at ht;simp only [Bool.and_eq_true,beq_iff_eq] at ht;obtain ⟨h1,h2⟩:=ht;cases hu:P.underlying T with
    | none=>simp [hu] at h1
    | some d=>
      rw [hu] at h1;exact run_loadVar_row w b T' T cs.toArray (0,0) d hb hu (by cases d <;> simp_all) (by rw [h2];simp [hl])
  rw [Array.getD_eq_getD_getElem?] at hg hg2;simp [results,hr,hg,hg2,asAddr,hload]
def zeroS:Sh:=.mk 0 [] [] [] []
end Go.Gx
namespace Go.Gx
theorem zeroC (A:Nat→Prop) (w:World):ShC A w [.int .i64 0,S [],S [],.slice none 0 0,.slice none 0 0] zeroS:=ShC.intro (StrsAt.nil _ _ _ _ (by simp)) (ShsAt.nil _ _ _ _ (by simp)) (by simp) (by simp)
end Go.Gx
namespace Go.Gx
open Go.Proofs
def BndV (o:Option Sh) (M:Nat→Prop) (v:Value) (w':World):Prop:=∃ cs' s',v=.tuple #[.agg cs'.toArray,.bool o.isSome]∧ShC M w' cs' s'∧∀ r,o=some r→s'=r
theorem BndV.mono {o:Option Sh} {M M':Nat→Prop} {v:Value} {w':World} (h:BndV o M v w') (hM:∀ k,k<w'.heap.size→M' k→M k):BndV o M' v w':=by
  obtain ⟨cs,s,h1,h2,h3⟩:=h;exact ⟨cs,s,h1,h2.mono hM,h3⟩
theorem avc_of {M:Nat→Prop} {n base:Nat} {wc w1 w2:World} {vN vP:Value} {k:Nat} (hM:∀ k,n≤k→M k) (h0:n≤base) (hb:base≤wc.heap.size) (hN:∀ j,some j=vN.ownBlock→base≤j∧j<wc.heap.size) (hP:∀ j,some j=vP.ownBlock→base≤j∧j<wc.heap.size) (hs:w1.heap.size≤w2.heap.size)
    (h:AvC M n base w2 vN vP k):(k<wc.heap.size∧M k∧M k)∨w1.heap.size≤k:=by
  rcases h with h | h | h | h | h
  · exact .inl ⟨by omega,h.2,h.2⟩
  · exact .inl ⟨by omega,hM k h.1,hM k h.1⟩
  · have:=hN k h;exact .inl ⟨by omega,hM k om_,hM k om_⟩
  · have:=hP k h;exact .inl ⟨by omega,hM k om_,hM k om_⟩
  · exact .inr om_
abbrev zeroL:List Value:=[.int .i64 0,S [],S [],.slice none 0 0,.slice none 0 0]
theorem bndV_none {o:Option Sh} {M:Nat→Prop} {w':World} (h:o=none):BndV o M (.tuple #[.agg zeroL.toArray,.bool false]) w':=⟨zeroL,zeroS,by rw [h];rfl,zeroC _ _,fun r e=>by rw [h] at e;cases e⟩
end Go.Gx
namespace Go.Gx
open Go.Proofs
structure Bd where
  of:Str
  name:Str
  sh:Sh
instance:Inhabited Bd:=⟨⟨[],[],default⟩⟩
instance car_sh:Car ShC 5:=⟨by omega,fun h=>h.len,fun h=>h.one,fun hc h=>h.move hc⟩
def BdC (A:Nat→Prop) (w:World) (cs:List Value) (b:Bd):Prop:=∃ rs,cs=S b.of :: S b.name :: rs∧ShC A w rs b.sh∧b.of.length≤9223372036854775807∧b.name.length≤9223372036854775807
theorem BdC.len {A:Nat→Prop} {w:World} {cs:List Value} {b:Bd} (h:BdC A w cs b):cs.length=7:=by obtain ⟨rs,rfl,h,-⟩:=h;simp [h.len]
theorem BdC.one {A:Nat→Prop} {w:World} {cs:List Value} {b:Bd} (h:BdC A w cs b):∀ v∈cs,v.oneCell'=true:=by
  obtain ⟨rs,rfl,h,-⟩:=h;intro v hv;rcases List.mem_cons.1 hv with rfl | hv
  · rfl
  · rcases List.mem_cons.1 hv with rfl | hv
    · rfl
    · exact h.one v hv
instance car_bd:Car BdC 7:=⟨by omega,fun h=>h.len,fun h=>h.one,fun hc h=>by obtain ⟨rs,e,h,h2⟩:=h;exact ⟨rs,e,h.move hc,h2⟩⟩
theorem BdC.carryR {A R:Nat→Prop} {w w':World} {cs:List Value} {b:Bd} (h:BdC A w cs b) (g:Gr R w w') (hR:∀ k,R k→A k):BdC A w' cs b:=Car.carryR h g hR
theorem BdC.carry {A:Nat→Prop} {w w':World} {cs:List Value} {b:Bd} (h:BdC A w cs b) (g:Bel w w'):BdC A w' cs b:=Car.carry h g
theorem BdC.mono {A A':Nat→Prop} {w:World} {cs:List Value} {b:Bd} (h:BdC A w cs b) (hA:∀ j,j<w.heap.size→A' j→A j):BdC A' w cs b:=Car.mono h hA
theorem BdC.up {A:Nat→Prop} {w:World} {cs:List Value} {b:Bd} (h:BdC A w cs b):BdC (fun k=>A k∨w.heap.size≤k) w cs b:=Car.up h
abbrev BdsAt:=RecsAt BdC 7
def findB:List Bd→Str→Str→Option Sh
  | [],_,_=>none
  | b :: l,o,n=>match findB l o n with
    | some s=>some s
    | none=>if b.of=o∧b.name=n then some b.sh else none
theorem findB_snoc {b:Bd} {o n:Str}:∀ {l:List Bd},findB (l++[b]) o n=if b.of=o∧b.name=n then some b.sh else findB l o n
  | []=>by simp only [List.nil_append,findB]
  | a :: l=>by
    rw [List.cons_append,findB,findB_snoc (l:=l),findB];by_cases h:b.of=o∧b.name=n
    · rw [if_pos h,if_pos h]
    · rw [if_neg h,if_neg h]
mutual
def putS (F:Str→Str→Option Sh):Sh→Option Sh
  | .mk k o n ns ps=>if k=9 then F o n else (putL F ps).map fun qs=>.mk k o n ns qs
def putL (F:Str→Str→Option Sh):List Sh→Option (List Sh)
  | []=>some []
  | p :: ps=>match putS F p,putL F ps with
    | some q,some qs=>some (q :: qs)
    | _,_=>none
end
def putP (F:Str→Str→Option Sh) (s:Sh) (i:Nat):Option Sh:=putS F (s.parts.getD i default)
theorem putL_eq (F:Str→Str→Option Sh):∀ l:List Sh,putL F l=if l.all (fun p=>(putS F p).isSome)=true then some (l.map fun p=>(putS F p).getD default) else none
  | []=>by rw [putL];rfl
  | p :: ps=>by
    rw [putL,putL_eq F ps];cases hp:putS F p with
    | none=>simp [hp]
    | some q=>
      by_cases h:ps.all (fun p=>(putS F p).isSome)=true
      · rw [if_pos h,if_pos (by rw [List.all_cons,hp,h];rfl)];simp [hp]
      · rw [if_neg h,if_neg (by rw [List.all_cons,hp];simpa using h)]
theorem list_range {α β : Type} [Inhabited α] {f:α → β}:∀ {l:List α},l.map f=(List.range l.length).map fun i=>f (l.getD i default)
  | []=>rfl
  | x :: l=>by
    rw [List.length_cons,List.range_succ_eq_map,List.map_cons,List.map_cons,List.map_map,list_range (l:=l)];rfl
theorem all_range {α : Type} [Inhabited α] {f:α → Bool}:∀ {l:List α},l.all f=(List.range l.length).all fun i=>f (l.getD i default)
  | []=>rfl
  | x :: l=>by
    rw [List.length_cons,List.range_succ_eq_map,List.all_cons,List.all_cons,List.all_map,all_range (l:=l)];rfl
theorem putS_name {F:Str→Str→Option Sh} {s:Sh} (h:s.kind=9):putS F s=F s.of s.name:=by
  cases s with
  | mk k o n ns ps=>rw [putS];exact if_pos h
theorem putS_else {F:Str→Str→Option Sh} {s:Sh} (h:s.kind≠9):putS F s=if (List.range s.parts.length).all (fun i=>(putP F s i).isSome)=true then some (.mk s.kind s.of s.name s.names ((List.range s.parts.length).map fun i=>(putP F s i).getD default)) else none:=by
  cases s with
  | mk k o n ns ps=>
    rw [putS,if_neg (show ¬ k=9 from h),putL_eq,all_range (l:=ps),list_range (l:=ps)];show (if (List.range ps.length).all (fun i=>(putS F (ps.getD i default)).isSome)=true then _ else none:Option (List Sh)).map _=_;unfold putP;simp only [Sh.parts,Sh.kind,Sh.of,Sh.name,Sh.names];by_cases hc:((List.range ps.length).all fun i=>(putS F (ps.getD i default)).isSome)=true
    · rw [if_pos hc];exact (if_pos hc).symm
    · rw [if_neg hc];exact (if_neg hc).symm
def TabIs (A:Nat→Prop) (w:World) (l:List ((Str × Str) × Value)) (F:Str→Str→Option Sh):Prop:=
  ∀ o n,match F o n with
    | none=>getK l (o,n)=none
    | some s=>∃ cs:List Value,getK l (o,n)=some (.agg cs.toArray)∧ShC A w cs s
def TabP (A B:Nat→Prop) (T:TypeId) (w:World) (tb:Nat) (F:Str→Str→Option Sh):Prop:=
  ∃ mb:Option Nat,Box w tb T [.map mb]∧¬ B tb∧match mb with
    | none=>∀ o n,F o n=none
    | some b=>¬ B b∧b≠tb∧∃ l,MapAtK K2 V2 w b l∧TabIs A w l F
theorem TabIs.move {A A':Nat→Prop} {w w':World} {l:List ((Str × Str) × Value)} {F:Str→Str→Option Sh} (hc:∀ (a:Addr) v,¬ A a.block→w.cell? a=some v→w'.cell? a=some v∧¬ A' a.block) (h:TabIs A w l F):TabIs A' w' l F:=fun o n=>by
  have:=h o n;cases hf:F o n with
  | none=>rw [hf] at this;exact this
  | some s=>rw [hf] at this;obtain ⟨cs,h1,h2⟩:=this;exact ⟨cs,h1,h2.move hc⟩
theorem TabIs.carryR {A R:Nat→Prop} {w w':World} {l:List ((Str × Str) × Value)} {F:Str→Str→Option Sh} (h:TabIs A w l F) (g:Gr R w w') (hA:∀ k,R k→A k):TabIs A w' l F:=h.move fun _ _ hn hv=>⟨g.cell hv (fun hr=>hn (hA _ hr)),hn⟩
theorem TabIs.carry {A:Nat→Prop} {w w':World} {l:List ((Str × Str) × Value)} {F:Str→Str→Option Sh} (h:TabIs A w l F) (g:Bel w w'):TabIs A w' l F:=h.carryR g (fun _ f=>f.elim)
theorem TabP.carryR {A B R:Nat→Prop} {T:TypeId} {w w':World} {tb:Nat} {F:Str→Str→Option Sh} (h:TabP A B T w tb F) (g:Gr R w w') (hA:∀ k,R k→A k) (hB:∀ k,R k→B k):TabP A B T w' tb F:=by
  obtain ⟨mb,h1,h2,h3⟩:=h;refine ⟨mb,h1.carryR g (fun e=>h2 (hB _ e)),h2,?_⟩;cases mb with
  | none=>exact h3
  | some b=>
    obtain ⟨g1,g2,l,g3,g4⟩:=h3;exact ⟨g1,g2,l,g3.carryR g (fun e=>g1 (hB _ e)),g4.move fun _ _ hn hv=>⟨g.cell hv (fun hr=>hn (hA _ hr)),hn⟩⟩
theorem TabP.carry {A B:Nat→Prop} {T:TypeId} {w w':World} {tb:Nat} {F:Str→Str→Option Sh} (h:TabP A B T w tb F) (g:Bel w w'):TabP A B T w' tb F:=h.carryR g (fun _ f=>f.elim) (fun _ f=>f.elim)
theorem TabP.up {A B:Nat→Prop} {T:TypeId} {w:World} {tb:Nat} {F:Str→Str→Option Sh} (h:TabP A B T w tb F):TabP (fun k=>A k∨w.heap.size≤k) (fun k=>B k∨w.heap.size≤k) T w tb F:=by
  obtain ⟨mb,h1,h2,h3⟩:=h;have hl:=h1.lt;refine ⟨mb,h1,fun e=>h2 (e.resolve_right om_),?_⟩;cases mb with
  | none=>exact h3
  | some b=>
    obtain ⟨g1,g2,l,g3,g4⟩:=h3;have:=g3.lt;exact ⟨fun e=>g1 (e.resolve_right om_),g2,l,g3,g4.move fun a v hn hv=>⟨hv,fun e=>hn (e.resolve_right (by have:=World.block_lt_of_cell? w _ hv;omega))⟩⟩
theorem TabP.mono {A B A' B':Nat→Prop} {T:TypeId} {w:World} {tb:Nat} {F:Str→Str→Option Sh} (h:TabP A B T w tb F) (hA:∀ k,k<w.heap.size→A' k→A k) (hB:∀ k,k<w.heap.size→B' k→B k):TabP A' B' T w tb F:=by
  obtain ⟨mb,h1,h2,h3⟩:=h;refine ⟨mb,h1,fun e=>h2 (hB _ h1.lt e),?_⟩;cases mb with
  | none=>exact h3
  | some b=>
    obtain ⟨g1,g2,l,g3,g4⟩:=h3;exact ⟨fun e=>g1 (hB _ g3.lt e),g2,l,g3,g4.move fun a v hn hv=>⟨hv,fun e=>hn (hA _ (World.block_lt_of_cell? w _ hv) e)⟩⟩
theorem TabIs.put {A:Nat→Prop} {w:World} {l:List ((Str × Str) × Value)} {F:Str→Str→Option Sh} {o n:Str} {cs:List Value} {s:Sh} (h:TabIs A w l F) (hs:ShC A w cs s):TabIs A w (putK l (o,n) (.agg cs.toArray)) (fun o' n'=>if o=o'∧n=n' then some s else F o' n'):=fun o' n'=>by
  rw [getK_put];by_cases hc:o=o'∧n=n'
  · obtain ⟨rfl,rfl⟩:=hc;simp only [and_self,if_true];exact ⟨cs,rfl,hs⟩
  · have hne:¬ ((o',n'):Str × Str)=(o,n):=fun e=>hc ⟨(Prod.mk.inj e).1.symm,(Prod.mk.inj e).2.symm⟩
    rw [if_neg hne];simp only [hc,if_false];exact h o' n'
theorem TabIs.nil {A:Nat→Prop} {w:World} {F:Str→Str→Option Sh} (h:∀ o n,F o n=none):TabIs A w [] F:=fun o n=>by rw [h o n];rfl
theorem TabP.look {P:Program} {t kt et:TypeId} (hm:P.underlying t=some (.map kt et)) (hk:KLaw P kt K2 V2) (hz:(P.info? et).bind (·.zero)=some (.agg [Value.int .i64 0,S [],S [],Value.slice none 0 0,Value.slice none 0 0].toArray)) {A B:Nat→Prop} {T:TypeId} {w:World} {tb:Nat} {F:Str→Str→Option Sh} (h:TabP A B T w tb F) {o n:Str} (hV:V2 (o,n)):
    ∃ (mb:Option Nat) (cs:List Value) (s:Sh),Box w tb T [.map mb]∧ShC A w cs s∧(∀ r,F o n=some r→s=r)∧
      ∀ (w':World) (E:Env) (m x:Operand) (ty:TypeId),Bel w w'→ev E m=.map mb→ev E x=.agg #[S o,S n]→X P (.lookup t m x true) ty E w' (.tuple #[.agg cs.toArray,.bool (F o n).isSome]) w':=by
  obtain ⟨mb,h1,h2,h3⟩:=h;cases mb with
  | none=>exact ⟨none,zeroL,zeroS,h1,zeroC _ _,fun r e=>(by rw [h3 o n] at e;cases e),fun w' E m x ty _ g1 g2=>by rw [h3 o n];exact x_lookN hm hk hz g1 (K:=K2) (k:=(o,n)) g2 hV⟩
  | some b=>
    obtain ⟨-,-,l,g3,g4⟩:=h3;have hl:=g4 o n;cases hf:F o n with
    | none=>
      rw [hf] at hl;refine ⟨some b,zeroL,zeroS,h1,zeroC _ _,fun r e=>(by cases e),fun w' E m x ty hB a1 a2=>?_⟩;have:=x_lookK (ty:=ty) hm hk hz a1 (k:=(o,n)) a2 hV (g3.carry hB);have hno:¬ idxK (o,n) l<l.length:=fun e=>by simp [getK,e] at hl
      rw [if_neg hno,decide_eq_false hno] at this;exact this
    | some s=>
      rw [hf] at hl;obtain ⟨cs,e1,e2⟩:=hl;refine ⟨some b,cs,s,h1,e2,fun r e=>(by cases e;rfl),fun w' E m x ty hB a1 a2=>?_⟩;have:=x_lookK (ty:=ty) hm hk hz a1 (k:=(o,n)) a2 hV (g3.carry hB);have hyes:idxK (o,n) l<l.length:=Decidable.byContradiction fun e=>by simp [getK,e] at e1
      simp only [getK,if_pos hyes,Option.some.injEq] at e1;rw [if_pos hyes,decide_eq_true hyes,e1] at this;exact this
end Go.Gx
namespace Go.Gx
open Go.ChangeShapes Go.WideShapes Go.Deep Go.RowKit
section
variable {H:Type} {enc:TypeId × Value→H} {P:Program} {w:World} {base:Nat} {spare:Nat→Bool} {held:Bool}
structure BdT (P:Program) (tB tS:TypeId) (g0 g1 g2:Field):Prop where
  hB:P.underlying tB=some (.struct #[g0,g1,g2])
  h0:P.underlying g0.type=some .string
  h1:P.underlying g1.type=some .string
  h2:g2.type=tS
  o:g0.offset=0∧g1.offset=1∧g2.offset=2
  c:P.cellsOf g0.type=1∧P.cellsOf g1.type=1∧P.cellsOf tS=5∧P.cellsOf tB=7
end
end Go.Gx
namespace Go.Gx
open Go.Proofs
theorem kexp1_ag25:aggT Try.prog 25 5=true:=by kernel_rfl
theorem kexp1_ag73:aggT Try.prog 73 2=true:=by kernel_rfl
theorem kexp1_el9:elT Try.prog 9 1=true:=by kernel_rfl
theorem kexp1_fo77_0:fieldOff Try.prog 77 0=some 0:=by kernel_rfl
theorem kexp1_mixed:Try.prog.follows .mixedOrders=true:=by kernel_rfl
theorem kexp1_oc75:oneCellT Try.prog 75=true:=by kernel_rfl
theorem kexp1_zr25:(Try.prog.info? 25).bind (·.zero)=some (Value.agg [Value.int .i64 0,S [],S [],Value.slice none 0 0,Value.slice none 0 0].toArray):=by kernel_rfl
theorem klaw_name:KLaw Try.prog 73 K2 V2:=
  klaw2 Try.underlying73 Try.underlying9 Try.underlying9 rfl rfl kr_ ⟨by kernel_rfl,by kernel_rfl,by kernel_rfl⟩ kr_ kr_ kr_ (Nat.le_of_ble_eq_true kr_)
theorem clone_strs (A:Nat→Prop) (v:Value) (l:List Str) (w:World) (h:StrsAt A w v l) (hl:l.length≤1000000):
    Ret Try.prog 38 #[v] w fun v' w'=>(StrsAt (fun k=>k<w.heap.size) w' v' l∧v'.oneCell'=true)∧Bel w w':=by
  have hh:=h.holds;obtain ⟨p,cap,rfl,p1,p2,p3,hx,hp⟩:=id h;refine ret_of_W Try.func38 rfl (Nat.le_of_ble_eq_true rfl) (res1 rfl) ?_;have hB:=Gr.refl (fun _=>False) w;refine W.seq (W.region (L.val (x_as (v:=.slice _ _ _) rfl) rfl ?_));refine L.nil (thn_n (W.seq (W.seq (W.region (L.val (x_mv (v:=.slice _ _ _) rfl) rfl ?_)))));refine L.val (x_eql0 Try.underlying22 rfl rfl) rfl ?_;refine L.nil (thn_n (W.cond (b:=_) rfl (fun g4=>?_) (fun g4=>?_)))
  ·have h4:=g4;refine W.seq (W.region (L.val (x_as (v:=.slice _ _ _) rfl) rfl ?_));refine L.nil (thn_n (W.ret (thn_r (fin_mk (.inr rfl) ?_))));have e:l=[]:=by cases p with
     | none=>exact Classical.byContradiction fun hne=>by obtain ⟨b,o,e,-⟩:=hp hne;cases e
     | some a=>cases h4
   subst e;exact ⟨⟨StrsAt.nil _ _ _ _ (by simp),rfl⟩,hB⟩
  ·have h4:=g4;refine W.skip (thn_n (W.seq (W.region (L.bs0 Try.underlying22 kexp1_el9 rfl (fun w5 hO5 hw hz5=>?_)))));have hB:=hB.carry hw;have hh:=hh.carry hw;refine L.val (x_mv (v:=.slice _ _ _) rfl) rfl ?_;refine L.appendN Try.underlying22 kexp1_el9 rfl rfl rfl hO5 (by simp) hh (by intro u hu;obtain ⟨x,-,rfl⟩:=List.mem_map.1 hu;rfl) om_ om_ (fun v7 w7 hO7 hg hob7=>?_);have hB:=hB.step hg (fun i hi e=>by have h1:=(Own.lt hO5 e).1;omega);obtain ⟨a7,c7,e7,-⟩:=own_shape hO7;rw [Nat.zero_add] at e7;subst e7;refine L.val (x_as (v:=.slice _ _ _) rfl) rfl ?_;refine L.nil (thn_n (W.ret (fin_mk (.inr rfl) ?_)));simp only [Nat.zero_add,List.nil_append] at hO7;exact ⟨⟨strs_done (A:=fun k=>k<w.heap.size) hO7 om_ hx (fun j h1 h2=>by omega),rfl⟩,hB⟩
theorem tget_ok (A B:Nat→Prop) (tb:Nat) (F:Str→Str→Option Sh) (o n:Str) (w:World) (h:TabP A B 77 w tb F) (hV:V2 (o,n)):
    Ret Try.prog 37 #[.pointer (some ⟨tb,0,none⟩),.agg #[S o,S n]] w fun v w'=>BndV (F o n) A v w'∧Bel w w':=by
  obtain ⟨mb,cs,s,bxT,hs,hsr,hlook⟩:=h.look Try.underlying75 klaw_name kr_ hV;obtain ⟨A1,hs,hA1,hU⟩:∃ A1:Nat→Prop,ShC A1 w cs s∧(∀ k,A k→A1 k)∧(∀ k,w.heap.size≤k→A1 k):=⟨_,hs.up,fun _=>.inl,fun _=>.inr⟩;have hlen:=hs.len;have hltT:=bxT.lt;refine ret_of_W_R Try.func37 rfl (Nat.le_of_ble_eq_true rfl) ?_;have hB:=Gr.refl (fun _=>False) w;refine W.seq (W.region (L.box (cs:=[S o,S n]) rfl rfl (fun w3 bx3 hw hz3=>?_)));have hB:=hB.carry hw;have hs:=hs.carry hw;have bxT:=bxT.carry hw;refine L.alloc (cs:=[Value.int .i64 0,S [],S [],Value.slice none 0 0,Value.slice none 0 0]) kexp1_zr25 rfl rfl (fun w4 bx4 hw hz4=>?_);have hB:=hB.carry hw;have hs:=hs.carry hw;have bxT:=bxT.carry hw;have bx3:=bx3.carry hw;have hz4b:=hB.size;refine L.val (x_as (v:=.bool _) rfl) rfl ?_;refine L.nil (thn_n (W.seq (W.drawF 12 kexp1_mixed (fun wF9 hB0=>?_))));refine LAC.takeN (i:=0) rfl kr_ kr_ kr_ kr_ (fun w hw=>x_mv (v:=.pointer _) rfl) rfl ?_;refine LAC.takeN (i:=1) rfl kr_ kr_ kr_ kr_ (fun w hw=>x_nil rfl) rfl ?_;refine LAC.takeN (i:=2) rfl kr_ kr_ kr_ kr_ (fun w hw=>x_fa kexp1_fo77_0 rfl) rfl ?_;refine LAC.takeN (i:=3) rfl kr_ kr_ kr_ kr_ (fun w hw=>x_ld (v:=.map _) kexp1_oc75 rfl (hw.keep (bxT.cell0 rfl))) rfl ?_;refine LAC.takeN (i:=4) rfl kr_ kr_ kr_ kr_ (fun w hw=>x_ldn (vs:=[S o,S n]) kexp1_ag73 rfl rfl (hw.keepRow rfl (bx3.row rfl))) rfl ?_;refine LAC.step (rs:=[5,9]) (fun _=>hB0) kr_ (by simp) ⟨⟨_,rfl,?_⟩,⟨_,rfl,?_⟩,trivial⟩
  ·refine L.val (hlook _ _ _ _ _ (hB.carry hB0) rfl rfl) rfl ?_;refine L.nil (thn_n (LAC.takeN (i:=6) rfl kr_ kr_ kr_ kr_ (fun w hw=>x_mv (v:=_) rfl) rfl ?_));refine LAC.takeN (i:=7) rfl kr_ kr_ kr_ kr_ (fun w hw=>x_ext (v:=_) rfl rfl) rfl ?_;refine LAC.takeN (i:=8) rfl kr_ kr_ kr_ kr_ (fun w hw=>x_ext (v:=.bool _) rfl rfl) rfl ?_;refine LAC.step (rs:=[9]) (fun _=>hB0) kr_ (by simp) ⟨⟨_,rfl,?_⟩,trivial⟩;have hs6:=hB0.size;refine L.alloc (cs:=[Value.int .i64 0,S [],S [],Value.slice none 0 0,Value.slice none 0 0]) kexp1_zr25 rfl rfl (fun w6 bx6 hw hz6=>?_);have hB0:=hB0.carry hw;refine L.nil (thn_n (LAC.step (rs:=[10]) (fun _=>hB0) kr_ (by simp) ⟨⟨_,rfl,?_⟩,trivial⟩));refine L.setRow kexp1_ag25 rfl rfl bx6 rfl hlen (hs.carry hB0).one (fun wl14 bx6 hw hzl14=>?_);have hB0:=hB0.set hw om_;refine L.nil (thn_n (LAC.takeN (i:=11) rfl kr_ kr_ kr_ kr_ (fun w hw=>x_as (v:=.bool _) rfl) rfl ?_));refine LAC.doneF kr_ hB0 ?_;have hB:=hB.carry hB0;have hs:=hs.carry hB0;have bxT:=bxT.carry hB0;have bx3:=bx3.carry hB0;have bx4:=bx4.carry hB0;refine thn_n (W.seq (W.region ?_));have hx4:=bx4.lt;have hx6:=bx6.lt;refine L.val (x_ldn (vs:=cs) kexp1_ag25 rfl hlen (bx6.row hlen)) rfl ?_;refine L.val (x_mv (v:=.bool _) rfl) rfl ?_;refine L.setRow kexp1_ag25 rfl rfl bx4 rfl hlen hs.one (fun wl18 bx4 hw hzl18=>?_);have hsz:=hB.size;have hB:=hB.set hw om_;have hs:=hs.carryR hw (fun j e=>hU j (by have e:j=_:=e;omega));have bxT:=bxT.carryR hw om_;have bx3:=bx3.carryR hw om_;have bx6:=bx6.carryR hw om_;refine L.val (x_as (v:=.bool _) rfl) rfl ?_;refine L.nil (thn_n (W.ret (finR_mk (.inr rfl) ?_)));exact ⟨_,resST (v:=.bool (F o n).isSome) rfl kexp1_ag25 rfl rfl bx4 hlen,⟨cs,s,rfl,hs.mono (fun k _ h=>hA1 k h),hsr⟩,hB⟩
  ·have hs6:=hB0.size;refine L.alloc (cs:=[Value.int .i64 0,S [],S [],Value.slice none 0 0,Value.slice none 0 0]) kexp1_zr25 rfl rfl (fun w6 bx6 hw hz6=>?_);have hB0:=hB0.carry hw;refine L.nil (thn_n (LAC.step (rs:=[5]) (fun _=>hB0) kr_ (by simp) ⟨⟨_,rfl,?_⟩,trivial⟩));refine L.val (hlook _ _ _ _ _ (hB.carry hB0) rfl rfl) rfl ?_;refine L.nil (thn_n (LAC.takeN (i:=6) rfl kr_ kr_ kr_ kr_ (fun w hw=>x_mv (v:=_) rfl) rfl ?_));refine LAC.takeN (i:=7) rfl kr_ kr_ kr_ kr_ (fun w hw=>x_ext (v:=_) rfl rfl) rfl ?_;refine LAC.takeN (i:=8) rfl kr_ kr_ kr_ kr_ (fun w hw=>x_ext (v:=.bool _) rfl rfl) rfl ?_;refine LAC.step (rs:=[10]) (fun _=>hB0) kr_ (by simp) ⟨⟨_,rfl,?_⟩,trivial⟩;refine L.setRow kexp1_ag25 rfl rfl bx6 rfl hlen (hs.carry hB0).one (fun wl14 bx6 hw hzl14=>?_);have hB0:=hB0.set hw om_;refine L.nil (thn_n (LAC.takeN (i:=11) rfl kr_ kr_ kr_ kr_ (fun w hw=>x_as (v:=.bool _) rfl) rfl ?_));refine LAC.doneF kr_ hB0 ?_;have hB:=hB.carry hB0;have hs:=hs.carry hB0;have bxT:=bxT.carry hB0;have bx3:=bx3.carry hB0;have bx4:=bx4.carry hB0;refine thn_n (W.seq (W.region ?_));have hx4:=bx4.lt;have hx6:=bx6.lt;refine L.val (x_ldn (vs:=cs) kexp1_ag25 rfl hlen (bx6.row hlen)) rfl ?_;refine L.val (x_mv (v:=.bool _) rfl) rfl ?_;refine L.setRow kexp1_ag25 rfl rfl bx4 rfl hlen hs.one (fun wl18 bx4 hw hzl18=>?_);have hsz:=hB.size;have hB:=hB.set hw om_;have hs:=hs.carryR hw (fun j e=>hU j (by have e:j=_:=e;omega));have bxT:=bxT.carryR hw om_;have bx3:=bx3.carryR hw om_;have bx6:=bx6.carryR hw om_;refine L.val (x_as (v:=.bool _) rfl) rfl ?_;refine L.nil (thn_n (W.ret (finR_mk (.inr rfl) ?_)));exact ⟨_,resST (v:=.bool (F o n).isSome) rfl kexp1_ag25 rfl rfl bx4 hlen,⟨cs,s,rfl,hs.mono (fun k _ h=>hA1 k h),hsr⟩,hB⟩
end Go.Gx
namespace Go.Gx
open Go.Proofs
theorem kexp2_ag25:aggT Try.prog 25 5=true:=by kernel_rfl
theorem kexp2_ag37:aggT Try.prog 37 7=true:=by kernel_rfl
theorem kexp2_ag73:aggT Try.prog 73 2=true:=by kernel_rfl
theorem kexp2_en39:Go.Proofs.Enters Try.prog 39:=Go.Proofs.enters_of Try.func39 kr_ rfl
theorem kexp2_fo37_0:fieldOff Try.prog 37 0=some 0:=by kernel_rfl
theorem kexp2_fo37_1:fieldOff Try.prog 37 1=some 1:=by kernel_rfl
theorem kexp2_fo37_2:fieldOff Try.prog 37 2=some 2:=by kernel_rfl
theorem kexp2_fo77_0:fieldOff Try.prog 77 0=some 0:=by kernel_rfl
theorem kexp2_mixed:Try.prog.follows .mixedOrders=true:=by kernel_rfl
theorem kexp2_oc75:oneCellT Try.prog 75=true:=by kernel_rfl
theorem kexp2_oc9:oneCellT Try.prog 9=true:=by kernel_rfl
theorem kexp2_si73:structInfo Try.prog 73=some ([(0,1),(1,1)],[S [],S []]):=by kernel_rfl
theorem kexp2_si77:structInfo Try.prog 77=some ([(0,1)],[Value.map none]):=by kernel_rfl
theorem kexp2_sz37:(Try.prog.info? 37).map (·.size)=some 7:=by kernel_rfl
theorem kexp2_sz75:(Try.prog.info? 75).map (·.size)=some 1:=by kernel_rfl
theorem kexp2_zr37:(Try.prog.info? 37).bind (·.zero)=some (Value.agg [S [],S [],Value.int .i64 0,S [],S [],Value.slice none 0 0,Value.slice none 0 0].toArray):=by kernel_rfl
theorem tput_ok (A:Nat→Prop) (base tb:Nat) (F:Str→Str→Option Sh) (o n:Str) (s:Sh) (cs:List Value) (w:World) (h:TabP A (fun k=>k<base) 77 w tb F) (hA:∀ k,base≤k→A k) (hG:base≤w.heap.size) (hs:ShC A w cs s) (hV:V2 (o,n)):
    Ret Try.prog 39 #[.pointer (some ⟨tb,0,none⟩),.agg #[S o,S n],.agg cs.toArray] w fun v w'=>v=.tuple #[]∧TabP A (fun k=>k<base) 77 w' tb (fun o' n'=>if o=o'∧n=n' then some s else F o' n')∧Gr (fun k=>base≤k) w w':=by
  have hlen:=hs.len;refine ret_of_W Try.func39 rfl (Nat.le_of_ble_eq_true rfl) (res0 rfl) ?_;have hB:=Gr.refl (fun k=>base≤k) w;have htb:tb<w.heap.size:=by obtain ⟨_,h1,-⟩:=h;exact h1.lt
  refine W.seq (W.region (L.box (cs:=[S o,S n]) rfl rfl (fun w4 bx4 hw hz4=>?_)));have hB:=hB.carry hw;have hs:=hs.carry hw;have h:=h.carry hw;refine L.box (cs:=cs) rfl rfl (fun w5 bx5 hw hz5=>?_);have hB:=hB.carry hw;have hs:=hs.carry hw;have h:=h.carry hw;have bx4:=bx4.carry hw;have hGe:base≤w5.heap.size:=Nat.le_trans hG hB.size;obtain ⟨mb,bxT,hnb,h3⟩:=h;have hnb:base≤tb:=Nat.not_lt.1 hnb;have hltT:=bxT.lt;have hz5b:=hB.size;refine L.nil (thn_n (W.cut (fun D' E' w'=>D'=[]∧∃ b l,E' 0=.pointer (some ⟨tb,0,none⟩)∧E' 4=.pointer (some ⟨w.heap.size,0,none⟩)∧E' 5=.pointer (some ⟨w4.heap.size,0,none⟩)∧base≤b∧b≠tb∧MapAtK K2 V2 w' b l∧TabIs A w' l F∧Gr (fun k=>base≤k) w w'∧ShC A w' cs s∧Box w' tb 77 [.map (some b)]∧Box w' w.heap.size 73 [S o,S n]∧Box w' w4.heap.size 25 cs) ?_ ?_))
  ·refine W.seq (W.region (L.val (x_mv (v:=.pointer _) rfl) rfl ?_));refine L.val (x_nil rfl) rfl ?_;refine L.val (x_fa kexp2_fo77_0 rfl) rfl ?_;refine L.val (x_ld (v:=.map _) kexp2_oc75 rfl (bxT.cell0 rfl)) rfl ?_;refine L.val (x_eqlm Try.underlying75 rfl rfl) rfl ?_;refine L.nil (thn_n (W.cond (b:=_) rfl (fun g10=>?_) (fun g10=>?_)))
   ·have h10:=g10;cases mb with
    | some b=>cases h10
    | none=>
    have h3:∀ o n,F o n=none:=h3;refine W.region (L.val (x_mv (v:=.pointer _) rfl) rfl ?_);refine L.mkmapK (K:=K2) (V:=V2) Try.underlying75 rfl (fun w12 mp12 hw hz12=>?_);have hB:=hB.carry hw;have hs:=hs.carry hw;have bxT:=bxT.carry hw;have bx4:=bx4.carry hw;have bx5:=bx5.carry hw;refine L.val (x_nil rfl) rfl ?_;refine L.val (x_fa kexp2_fo77_0 rfl) rfl ?_;refine L.set (v:=.map _) kexp2_sz75 rfl rfl rfl bxT rfl (fun wl12 bxT hw hzl12=>?_);have hsz:=hB.size;have hB:=hB.into hw (by show base≤_;omega);have hs:=hs.carryR hw (fun j e=>hA j (by have e:j=_:=e;omega));have bx4:=bx4.carryR hw om_;have bx5:=bx5.carryR hw om_;have mp12:=mp12.carryR hw om_;refine L.nil (thn_n ?_);first
      | exact ⟨rfl,w5.heap.size,[],rfl,rfl,rfl,by omega,by omega,mp12,TabIs.nil h3,hB,hs,bxT,bx4,bx5⟩
      | exact ⟨rfl,b,l,rfl,rfl,rfl,hb1,hb2,mp0,htab,hB,hs,bxT,bx4,bx5⟩
   ·have h10:=g10;cases mb with
    | none=>cases h10
    | some b=>
    obtain ⟨hb1,hb2,l,mp0,htab⟩:¬ b<base∧b≠tb∧∃ l,MapAtK K2 V2 w5 b l∧TabIs A w5 l F:=h3;have hb1:base≤b:=Nat.not_lt.1 hb1;refine W.skip (thn_n ?_);first
      | exact ⟨rfl,w5.heap.size,[],rfl,rfl,rfl,by omega,by omega,mp12,TabIs.nil h3,hB,hs,bxT,bx4,bx5⟩
      | exact ⟨rfl,b,l,rfl,rfl,rfl,hb1,hb2,mp0,htab,hB,hs,bxT,bx4,bx5⟩
  ·rintro D E w15 ⟨rfl,b,l,e0,e4,e5,hb1,hb2,mp0,htab,hB,hs,bxT,bx4,bx5⟩;rw [upd_self e0,upd_self e4,upd_self e5];refine W.drawT (fun w'=>Box w' tb 77 [.map (some b)]∧Box w' w.heap.size 73 [S o,S n]∧Box w' w4.heap.size 25 cs) 6 kexp2_mixed ?_;have hB:=hB.carry (bel_drew _);have hs:=hs.carry (bel_drew _);have bxT:=bxT.carry (bel_drew _);have bx4:=bx4.carry (bel_drew _);have bx5:=bx5.carry (bel_drew _);have mp0:=mp0.carry (bel_drew _);have htab:=htab.carry (bel_drew _);refine LAC.take (i:=0) rfl kr_ kr_ kr_ kr_ rfl kr_ (fun w hw=>x_mv (v:=.pointer _) rfl) rfl ?_;refine LAC.take (i:=1) rfl kr_ kr_ kr_ kr_ rfl kr_ (fun w hw=>x_nil rfl) rfl ?_;refine LAC.take (i:=2) rfl kr_ kr_ kr_ kr_ rfl kr_ (fun w hw=>x_fa kexp2_fo77_0 rfl) rfl ?_;refine LAC.take (i:=3) rfl kr_ kr_ kr_ kr_ rfl kr_ (fun w hw=>by obtain ⟨bxT,bx4,bx5⟩:=hw;exact x_ld (v:=.map _) kexp2_oc75 rfl (bxT.cell0 rfl)) rfl ?_;refine LAC.take (i:=4) rfl kr_ kr_ kr_ kr_ rfl kr_ (fun w hw=>by obtain ⟨bxT,bx4,bx5⟩:=hw;exact x_ldn (vs:=[S o,S n]) kexp2_ag73 rfl rfl (bx4.row rfl)) rfl ?_;refine LAC.take (i:=5) rfl kr_ kr_ kr_ kr_ rfl kr_ (fun w hw=>by obtain ⟨bxT,bx4,bx5⟩:=hw;exact x_ldn (vs:=cs) kexp2_ag25 rfl hlen (bx5.row hlen)) rfl ?_;refine LAC.step (rs:=[6]) (fun _=>⟨bxT,bx4,bx5⟩) kr_ (by simp) ⟨⟨_,rfl,?_⟩,trivial⟩;refine L.mapsetK (K:=K2) (V:=V2) (k:=(o,n)) (v:=.agg cs.toArray) Try.underlying75 klaw_name rfl rfl hV rfl mp0 (fun wl19 mp0 hw hzl19=>?_);have hB:=hB.into hw (by show base≤_;omega);have bxT:=bxT.carryR hw (fun e=>hb2 e.symm);have htab2:TabIs A wl19 (putK l (o,n) (.agg cs.toArray)) (fun o' n'=>if o=o'∧n=n' then some s else F o' n'):=(htab.put hs).move fun a v hn hv=>⟨hw.cell hv (fun e=>hn (hA _ (by have e:a.block=b:=e;omega))),hn⟩
   refine L.nil (thn_n (LAC.done kr_ kr_ ?_));refine fin_mk (.inl rfl) ?_;exact ⟨rfl,⟨some b,bxT,fun e=>by omega,fun e=>by omega,hb2,_,mp0,htab2⟩,hB⟩
theorem known_ok (A0:Nat→Prop) (v:Value) (env:List Bd) (w:World) (h0:BdsAt A0 w v env) (hl:env.length≤1000000):
    Ret Try.prog 26 #[v] w fun v' w'=>(∃ tb,v'=.pointer (some ⟨tb,0,none⟩)∧TabP (fun k=>A0 k∨w.heap.size≤k) (fun k=>k<w.heap.size) 77 w' tb (findB env))∧Bel w w':=by
  obtain ⟨M,hM,h0,hMe⟩:∃ M:Nat→Prop,(∀ k,w.heap.size≤k→M k)∧BdsAt M w v env∧M=fun k=>A0 k∨w.heap.size≤k:=⟨_,fun k h=>.inr h,h0.up,rfl⟩
  rw [← hMe];obtain ⟨p,cap,row,rfl,p1,p2,p3,hE⟩:=h0;refine ret_of_W Try.func26 rfl (Nat.le_of_ble_eq_true rfl) (res1 rfl) ?_;have hB:=Gr.refl (fun _=>False) w;refine W.seq (W.region (L.val (x_as (v:=.pointer _) rfl) rfl ?_));refine L.nil (thn_n (W.seq (W.region (L.val (x_build (cells:=[.map _]) kexp2_si77 rfl rfl) rfl ?_))));refine L.box (cs:=[.map none]) rfl rfl (fun w7 bx7 hw hz7=>?_);have hB:=hB.carry hw;have hE:=hE.carry hw;refine L.val (x_as (v:=.pointer _) rfl) rfl ?_;refine L.nil (thn_n (W.seq (W.seq (W.region (L.val (x_mv (v:=.slice _ _ _) rfl) rfl ?_)))));refine L.val (x_len_slice Try.underlying26 rfl) rfl ?_;refine L.val (x_mv (v:=.int _ _) rfl) rfl ?_;refine L.nil (thn_n (W.block (W.loop (fun m' E w'=>∃ (i:Nat),m'=env.length - i∧E 3=.pointer (some ⟨w.heap.size,0,none⟩)∧E 8=.slice p env.length cap∧E 9=.int .i64 (env.length:Nat)∧E 10=.int .i64 (i:Nat)∧(Bel w w')∧(RecRow BdC 7 M w' p row env)∧(TabP M (fun k=>k<w.heap.size) 77 w' w.heap.size (findB (env.take i)))∧(i≤env.length)∧(w.heap.size<w'.heap.size)) (env.length) ?_ ?_)))
  ·exact ⟨0,by omega,vi_,vi_,vi_,vi_,ao_,ao_,(by exact ⟨none,bx7,fun e=>by omega,fun _ _=>rfl⟩),ao_,ao_⟩
  ·rintro _ E wL11 ⟨i,em,e3,e8,e9,e10,hB,hE,hT,hi,hG⟩;rw [upd_self e3,upd_self e8,upd_self e9,upd_self e10];refine W.seq (W.region (L.val (x_lss rfl rfl) rfl ?_));refine L.nil (thn_n (W.seq (W.cond (b:=_) rfl (fun g11=>?_) (fun g11=>?_))))
   ·have h11:=of_decide_eq_true g11;have hip:i<env.length:=by omega
    obtain ⟨pb,po,rfl,-,-⟩:=hE.elem hip;obtain ⟨rs,e1,hs,ho,hn⟩:=hE.each i hip;have hrs:=hs.len;have hT:=hT.up.mono (A':=M) (B':=fun k=>k<w.heap.size∨wL11.heap.size≤k) (fun k _ h=>.inl h) (fun k _ h=>h);refine W.skip (thn_n (W.seq (W.block (W.seq (W.region (L.val (x_ia (j:=i) Try.underlying26 kexp2_sz37 rfl rfl om_ om_) rfl ?_))))));refine L.val (x_ldn (vs:=row i) kexp2_ag37 rfl (hE.len i hip) (hE.elemAt hip)) rfl ?_;refine L.alloc (cs:=[S [],S [],Value.int .i64 0,S [],S [],Value.slice none 0 0,Value.slice none 0 0]) kexp2_zr37 rfl rfl (fun w5 bx5 hw hz5=>?_);have hB:=hB.carry hw;have hE:=hE.carry hw;have hT:=hT.carry hw;have hs:=hs.carry hw;refine L.setRow kexp2_ag37 rfl rfl bx5 rfl (hE.len i hip) (hE.each i hip).one (fun wl12 bx5 hw hzl12=>?_);have hsz:=hB.size;have hB:=hB.set hw om_;have hE:=hE.carryR hw (fun j e=>hM j (by have e:j=_:=e;omega));have hT:=hT.carryR hw (fun j e=>hM j (by have e:j=_:=e;omega)) (fun j e=>.inr (by have e:j=_:=e;omega));have hs:=hs.carryR hw (fun j e=>hM j (by have e:j=_:=e;omega));rw [e1] at bx5;refine L.nil (thn_n (W.region (L.val (x_mv (v:=.pointer _) rfl) rfl ?_)));refine L.val (x_fa kexp2_fo37_0 rfl) rfl ?_;refine L.val (x_ld (v:=S _) kexp2_oc9 rfl (bx5.cell0 rfl)) rfl ?_;refine L.val (x_fa kexp2_fo37_1 rfl) rfl ?_;refine L.val (x_ld (v:=S _) kexp2_oc9 rfl (bx5.cell0 rfl)) rfl ?_;refine L.val (x_build (cells:=[S _,S _]) kexp2_si73 rfl rfl) rfl ?_;refine L.val (x_fa kexp2_fo37_2 rfl) rfl ?_;refine L.val (x_ldn (vs:=rs) kexp2_ag25 rfl hrs (bx5.rowD 2 hrs)) rfl ?_;refine L.ret (x_call kexp2_en39 rfl) rfl (tput_ok M w.heap.size w.heap.size (findB (env.take i)) (env.getD i default).of (env.getD i default).name (env.getD i default).sh rs _ (hT.mono (fun k _ h=>h) (fun k _ h=>.inl h)) hM om_ hs ⟨ho,hn⟩) ?_;rintro _ w22 ⟨rfl,hT,hw⟩;have hB:=hB.step hw (fun k hk e=>by have e:w.heap.size≤k:=e;omega);have hE:=hE.carryR hw hM;have hs22:=hw.size;have hTe:TabP M (fun k=>k<w.heap.size) 77 w22 w.heap.size (findB (env.take (i+1))):=by
      have e:findB (env.take (i+1))=fun o' n'=>if (env.getD i default).of=o'∧(env.getD i default).name=n' then some (env.getD i default).sh else findB (env.take i) o' n':=by
        funext o' n';have e2:env.take (i+1)=env.take i++[env.getD i default]:=by rw [List.take_succ_eq_append_getElem hip,List.getD_eq_getElem?_getD,List.getElem?_eq_getElem hip];rfl
        rw [e2,findB_snoc]
      rw [e];exact hT
    refine L.nil (blk_n (thn_n (W.region (L.val (x_add rfl rfl (wr64 om_)) rfl ?_))));refine L.val (x_mv (v:=.int _ _) rfl) rfl ?_;refine L.nil (thn_n ⟨rfl,?_⟩);refine ⟨_,?_,i+1,rfl,vi_,vi_,vi_,vi_,ao_,ao_,ao_,ao_,ao_⟩;omega
   ·have h11:=dlt_f g11;refine W.exit (thn_x (thn_x (blk_hit ?_)));refine thn_n (W.seq (W.region (L.val (x_mv (v:=.pointer _) rfl) rfl ?_)));refine L.val (x_as (v:=.pointer _) rfl) rfl ?_;refine L.nil (thn_n (W.ret (fin_mk (.inr rfl) ?_)));exact ⟨⟨_,rfl,by rw [List.take_of_length_le om_] at hT;exact hT⟩,hB⟩
end Go.Gx
