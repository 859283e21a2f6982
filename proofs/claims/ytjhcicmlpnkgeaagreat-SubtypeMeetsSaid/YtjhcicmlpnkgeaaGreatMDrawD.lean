/- In a region that draws and stores: what reads alone is taken first, by what holds all the time, or up to the first store. Conditions: none. -/
import Derived.Test.YtjhcicmlpnkgeaaGreatMSort3
import Derived.Test.YtjhcicmlpnkgeaaGreatMGrad3
import Derived.Test.YtjhcicmlpnkgeaaGreatMIns
import Derived.Test.YtjhcicmlpnkgeaaGreatMBnd
import Derived.Test.YtjhcicmlpnkgeaaGreatMSortF
import Derived.Test.YtjhcicmlpnkgeaaGreatMBelow
namespace Go.Gx
variable {P:Program} {ops:Array Oper} {Q:Exit→Act→World→Prop} {C0 C1:World→Prop}
def wpAnyD (P:Program) (ops:Array Oper) (C0 C1:World→Prop) (st:Nat) (Q:Exit→Act→World→Prop):Nat→Array Bool→Act→World→Prop
  | 0,listed,a,w=>C0 w∧(listed.getD st false=false→C1 w)∧Region.ready .any ops listed=[]∧Q .normal a w
  | f+1,listed,a,w=>C0 w∧(listed.getD st false=false→C1 w)∧(Region.ready .any ops listed=[]→Q .normal a w)∧∀ i∈Region.ready .any ops listed,wpOp P ops Q i (wpAnyD P ops C0 C1 st Q f (listed.setIfInBounds i true)) a w
theorem wpAnyD.any {st:Nat}:∀ (f:Nat) (listed:Array Bool) (a:Act) (w:World),wpAnyD P ops C0 C1 st Q f listed a w→wpAny P .any ops Q f listed a w
  | 0,_,_,_,h=>h.2.2
  | f+1,_,_,_,h=>⟨h.2.2.1,fun i hi=>wpOp_mono (fun _ _ h'=>wpAnyD.any f _ _ _ h') (h.2.2.2 i hi)⟩
theorem wpAnyD.here {st f:Nat} {listed:Array Bool} {a:Act} {w:World} (h:wpAnyD P ops C0 C1 st Q f listed a w):C0 w∧(listed.getD st false=false→C1 w):=by
  cases f <;> exact ⟨h.1,h.2.1⟩
theorem wpAnyD.take0 {i st:Nat} {oi:Oper} {v:Value} (hi:ops[i]? = some oi) (hsel:∀ (j:Nat) (o:Oper) cs b,ops[j]? = some o→o.op≠.select cs b)
    (hQ:∀ c a w,Q (.panic c) (a.put oi.dst v) w→Q (.panic c) a w) (hne:st≠i):
    ∀ (fuel:Nat) (listed:Array Bool) (a:Act) (w:World),
      (∀ j oj,ops[j]? = some oj→j≠i→listed.getD j true=false→(∀ e∈oj.after,Region.binds .any e=true→e.on≠i)→oi.apart ops oj=true)→
      i∈Region.ready .any ops listed→YF P ops C0 oi v a→
      wpAnyD P ops C0 C1 st Q fuel (listed.setIfInBounds i true) (a.put oi.dst v) w→wpAnyD P ops C0 C1 st Q (fuel+1) listed a w:=by
  intro fuel;induction fuel with
  | zero=>
    intro listed a w _ hr hy H;refine ⟨H.1,fun h=>H.2.1 (by rw [getD_set_ne false hne.symm];exact h),fun h=>(by rw [h] at hr;cases hr),fun j hj=>?_⟩;by_cases hji:j=i
    · subst hji;exact hy.take hi H.1 H
    · have:=ready_mono hj hji;rw [H.2.2.1] at this;cases this
  | succ fuel ih=>
    intro listed a w hfree hr hy H;have hun:=(mem_ready.1 hr).1;refine ⟨H.1,fun h=>H.2.1 (by rw [getD_set_ne false hne.symm];exact h),fun h=>(by rw [h] at hr;cases hr),fun j hj=>?_⟩;by_cases hji:j=i
    · subst hji;exact hy.take hi H.1 H
    · have h1:=H.2.2.2 j (ready_mono hj hji);obtain ⟨hjun,oj,hoj,hall⟩:=mem_ready.1 hj;have hnot:∀ e∈oj.after,Region.binds .any e=true→e.on≠i:=fun e he hb heq=>by
        have h1:=hall e he hb;rw [heq,unlisted hun] at h1;cases h1
      have h2:=wpOp_lateF hoj (hfree j oj hoj hji hjun hnot) (fun cs b=>hsel i oi cs b hi) (fun cs b=>hsel j oj cs b hoj) hQ hy h1;refine wpOp_mono (fun a' w' h3=>ih (listed.setIfInBounds j true) a' w' (fun k ok hk hki hu hno=>?_) (ready_mono hr (Ne.symm hji)) h3.1 ?_) h2
      · refine hfree k ok hk hki ?_ hno;by_cases hjk:j=k
        · subst hjk;exact hjun
        · rw [getD_set_ne true hjk] at hu;exact hu
      · rw [Array.setIfInBounds_comm _ _ hji];exact h3.2
theorem wpAnyD.take1 {i st:Nat} {oi ost:Oper} {v:Value} (hi:ops[i]? = some oi) (hsel:∀ (j:Nat) (o:Oper) cs b,ops[j]? = some o→o.op≠.select cs b)
    (hQ:∀ c a w,Q (.panic c) (a.put oi.dst v) w→Q (.panic c) a w) (hst:ops[st]? = some ost) (hdep:∃ e∈ost.after,Region.binds .any e=true∧e.on=i) (hne:st≠i):
    ∀ (fuel:Nat) (listed:Array Bool) (a:Act) (w:World),
      (listed.getD st false=true→listed.getD i false=true)→
      (∀ j oj,ops[j]? = some oj→j≠i→listed.getD j true=false→(∀ e∈oj.after,Region.binds .any e=true→e.on≠i)→oi.apart ops oj=true)→
      i∈Region.ready .any ops listed→YF P ops C1 oi v a→
      wpAnyD P ops C0 C1 st Q fuel (listed.setIfInBounds i true) (a.put oi.dst v) w→wpAnyD P ops C0 C1 st Q (fuel+1) listed a w:=by
  intro fuel;induction fuel with
  | zero=>
    intro listed a w hcl _ hr hy H;have hun:=(mem_ready.1 hr).1;have hst0:listed.getD st false=false:=by
      cases hh:listed.getD st false
      · rfl
      · have:=hcl hh;rw [unlisted hun] at this;cases this
    have hC:C1 w:=H.2.1 (by rw [getD_set_ne false hne.symm];exact hst0);refine ⟨H.1,fun _=>hC,fun h=>(by rw [h] at hr;cases hr),fun j hj=>?_⟩;by_cases hji:j=i
    · subst hji;exact hy.take hi hC H
    · have:=ready_mono hj hji;rw [H.2.2.1] at this;cases this
  | succ fuel ih=>
    intro listed a w hcl hfree hr hy H;have hun:=(mem_ready.1 hr).1;have hst0:listed.getD st false=false:=by
      cases hh:listed.getD st false
      · rfl
      · have:=hcl hh;rw [unlisted hun] at this;cases this
    have hC:C1 w:=H.2.1 (by rw [getD_set_ne false hne.symm];exact hst0);refine ⟨H.1,fun _=>hC,fun h=>(by rw [h] at hr;cases hr),fun j hj=>?_⟩;by_cases hji:j=i
    · subst hji;exact hy.take hi hC H
    · have h1:=H.2.2.2 j (ready_mono hj hji);obtain ⟨hjun,oj,hoj,hall⟩:=mem_ready.1 hj;have hnot:∀ e∈oj.after,Region.binds .any e=true→e.on≠i:=fun e he hb heq=>by
        have h1:=hall e he hb;rw [heq,unlisted hun] at h1;cases h1
      have hjst:j≠st:=fun e=>by
        subst e;rw [hst] at hoj;cases hoj;obtain ⟨e,he,hb,hon⟩:=hdep;exact hnot e he hb hon
      have h2:=wpOp_lateF hoj (hfree j oj hoj hji hjun hnot) (fun cs b=>hsel i oi cs b hi) (fun cs b=>hsel j oj cs b hoj) hQ hy h1;refine wpOp_mono (fun a' w' h3=>ih (listed.setIfInBounds j true) a' w' (fun h=>?_) (fun k ok hk hki hu hno=>?_) (ready_mono hr (Ne.symm hji)) h3.1 ?_) h2
      · rw [getD_set_ne false hjst,hst0] at h;cases h
      · refine hfree k ok hk hki ?_ hno;by_cases hjk:j=k
        · subst hjk;exact hjun
        · rw [getD_set_ne true hjk] at hu;exact hu
      · rw [Array.setIfInBounds_comm _ _ hji];exact h3.2
section
variable {n st:Nat} {K:List Deferred→Env→World→Prop} {D:List Deferred} {E:Env} {w:World}
def LAD (P:Program) (n:Nat) (ops:Array Oper) (C0 C1:World→Prop) (st:Nat) (K:List Deferred→Env→World→Prop) (fuel:Nat) (listed:Array Bool) (D:List Deferred) (E:Env) (w:World):Prop:=
  ∀ a,Fr D n a E→wpAnyD P ops C0 C1 st (lift n (nrm K)) fuel listed a w
theorem W.drawD {id:Nat} {l:List Oper} {Q:Post} (R R1:Nat→Prop) (st:Nat) (hm:P.follows .mixedOrders=true)
    (h:∀ w1,Bel w w1→LAD P n l.toArray (Gr R w1) (Gr R1 w1) st (Q .normal) l.length (Array.replicate l.length false) D E w1):W P n (.region id l.toArray true) Q D E w:=by
  intro a ha;refine wp_mono (wp_region_any (Q:=lift n (nrm (Q .normal))) hm ?_) ?_
  · have:=(h _ (bel_drew _) a ha).any;simpa using this
  · rintro e a' w' ⟨he,E',hE,rfl,hq⟩;exact ⟨he,E',hE,hq⟩
theorem LAD.take0 {fuel:Nat} {listed:Array Bool} {i d:Nat} {op:Op} {t:TypeId} {p:String} {af:Array Edge} {v:Value}
    (ho:ops[i]? = some ⟨some d,op,t,p,af,none⟩) (hs:Region.noSelect ops=true) (hf:Region.free .any ops listed i=true) (hr:(Region.ready .any ops listed).contains i=true) (hne:Nat.beq st i=false)
    (hx:∀ w,C0 w→X P op t E w v w) (hd:Nat.blt d n=true) (k:LAD P n ops C0 C1 st K fuel (listed.setIfInBounds i true) D (upd E d v) w):LAD P n ops C0 C1 st K (fuel+1) listed D E w:=by
  intro a ha;refine wpAnyD.take0 ho (Region.noSelect_spec hs) ?_ (fun h=>by subst h;simp at hne) fuel listed a w (Region.free_spec ho hf) (by simpa using hr) (.inl ⟨by simp [Region.wanted],fun w hw=>?_⟩) (k _ (ha.put v hd))
  · rintro c a w ⟨_,E,_,h,_⟩;cases h
  · have:=hx w hw;unfold X at this;rw [execOp_bare,ha.eval];exact this
theorem LAD.take1 {fuel:Nat} {listed:Array Bool} {i d:Nat} {op:Op} {t:TypeId} {p:String} {af:Array Edge} {v:Value}
    (ho:ops[i]? = some ⟨some d,op,t,p,af,none⟩) (hs:Region.noSelect ops=true) (hf:Region.free .any ops listed i=true) (hr:(Region.ready .any ops listed).contains i=true) (hne:Nat.beq st i=false)
    (hst:(ops[st]?).map (fun o=>o.after.any fun e=>Region.binds .any e && Nat.beq e.on i)=some true) (hl:listed.getD st true=false)
    (hx:∀ w,C1 w→X P op t E w v w) (hd:Nat.blt d n=true) (k:LAD P n ops C0 C1 st K fuel (listed.setIfInBounds i true) D (upd E d v) w):LAD P n ops C0 C1 st K (fuel+1) listed D E w:=by
  intro a ha;cases hos:ops[st]? with
  | none=>rw [hos] at hst;cases hst
  | some ost=>
    rw [hos] at hst;simp only [Option.map_some,Option.some.injEq] at hst;obtain ⟨e,he,hb⟩:=Array.any_eq_true'.1 hst;simp only [Bool.and_eq_true] at hb;refine wpAnyD.take1 ho (Region.noSelect_spec hs) ?_ hos ⟨e,he,hb.1,Nat.eq_of_beq_eq_true hb.2⟩ (fun h=>by subst h;simp at hne) fuel listed a w (fun h=>by rw [unlisted hl] at h;cases h) (Region.free_spec ho hf) (by simpa using hr)
      (.inl ⟨by simp [Region.wanted],fun w hw=>?_⟩) (k _ (ha.put v hd))
    · rintro c a w ⟨_,E,_,h,_⟩;cases h
    · have:=hx w hw;unfold X at this;rw [execOp_bare,ha.eval];exact this
theorem LAD.done {listed:Array Bool} (hr:Region.ready .any ops listed=[]) (hl:listed.getD st false=true) (hC:C0 w) (h:K D E w):LAD P n ops C0 C1 st K 0 listed D E w:=
  fun _ ha=>⟨hC,fun h0=>(by rw [hl] at h0;cases h0),hr,lift_mk (by simp) ha ⟨rfl,h⟩⟩
def LADs (P:Program) (n:Nat) (ops:Array Oper) (C0 C1:World→Prop) (st:Nat) (K:List Deferred→Env→World→Prop) (fuel:Nat) (listed:Array Bool) (D:List Deferred) (E:Env) (w:World):List Nat→Prop
  | []=>True
  | i :: r=>(∃ o,ops[i]? = some o∧L P n ops (thn (LAD P n ops C0 C1 st K fuel (listed.setIfInBounds i true)) (nrm K)) [o] D E w)∧LADs P n ops C0 C1 st K fuel listed D E w r
theorem LAD.step {fuel:Nat} {listed:Array Bool} {rs:List Nat} (hC0:C0 w) (hC1:listed.getD st false=false→C1 w) (hr:Region.ready .any ops listed=rs) (hne:rs≠[])
    (h:LADs P n ops C0 C1 st K fuel listed D E w rs):LAD P n ops C0 C1 st K (fuel+1) listed D E w:=by
  intro a ha;refine ⟨hC0,hC1,fun h0=>absurd (hr.symm.trans h0) hne,fun j hj=>?_⟩;rw [hr] at hj;have key:∀ rs:List Nat,LADs P n ops C0 C1 st K fuel listed D E w rs→j∈rs→∃ o,ops[j]? = some o∧L P n ops (thn (LAD P n ops C0 C1 st K fuel (listed.setIfInBounds j true)) (nrm K)) [o] D E w:=by
    intro rs;induction rs with
    | nil=>intro _ hi;cases hi
    | cons k r ih=>
      intro hL hi;rcases List.mem_cons.1 hi with rfl | hi
      · exact hL.1
      · exact ih hL.2 hi
  obtain ⟨o,ho,hLo⟩:=key rs h hj;have h1:=hLo a ha;have hl:∀ e a w,lift n (thn (LAD P n ops C0 C1 st K fuel (listed.setIfInBounds j true)) (nrm K)) e a w→Exit.then (wpAnyD P ops C0 C1 st (lift n (nrm K)) fuel (listed.setIfInBounds j true)) (lift n (nrm K)) e a w:=by
    intro e a w ⟨h1,E',h2,h3⟩;cases e <;> simp only [thn,Exit.then] at h3 ⊢;case normal=>exact h3 a h2
    case outgrown=>exact absurd rfl h1
    all_goals exact ⟨by simp,E',h2,h3⟩
  unfold wpOp;rw [ho];simp only;unfold wpList at h1;split
  · rename_i hw
    rw [if_pos hw] at h1;rcases h1 with h1 | ⟨_,a',w',h1⟩
    · refine .inl ?_;unfold Oper.wp at h1 ⊢;generalize (execOp a.eval o).run P w=res at h1 ⊢;cases res with
      | ok x w'=>
        cases x <;> simp only [Oper.upon,wpList] at h1 ⊢ <;> try exact hl _ _ _ h1
        · refine h1.mono fun e w'' h=>?_
          cases e with
          | returned v=>exact hl _ _ _ h
          | panicked c=>exact hl _ _ _ h
          | outgrown=>obtain ⟨a',w',h⟩:=h;exact absurd rfl h.1
        · exact h1.mono fun v w'' h=>hl _ _ _ h
      | halt x w'=>cases x <;> simp only [Oper.upon] at h1 ⊢ <;> try exact hl _ _ _ h1
    · exact absurd rfl h1.1
  · rename_i hw;rw [if_neg hw] at h1;exact hl _ _ _ h1
theorem LAD.step' {fuel:Nat} {listed:Array Bool} {rs:List Nat} (hC0:C0 w) (hl:listed.getD st false=true) (hr:Region.ready .any ops listed=rs) (hne:rs≠[])
    (h:LADs P n ops C0 C1 st K fuel listed D E w rs):LAD P n ops C0 C1 st K (fuel+1) listed D E w:=LAD.step hC0 (fun h0=>by rw [hl] at h0;cases h0) hr hne h
end
theorem Gr.keepRowR {R:Nat→Prop} {a b:World} (h:Gr R a b) {bl o k:Nat} {vs:List Value} (hn:¬ R bl) (hl:vs.length=k) (hc:∀ j,j<k→a.cell? ⟨bl,o+j,none⟩=vs[j]?):∀ j,j<k→b.cell? ⟨bl,o+j,none⟩=vs[j]? := fun j hj=>by
  have hv:=List.getElem?_eq_getElem (l:=vs) (i:=j) om_;rw [hv];exact h.cell (by rw [hc j hj,hv]) hn
theorem Gr.keepR {R:Nat→Prop} {a b:World} (h:Gr R a b) {p:Addr} {v:Value} (hn:¬ R p.block) (hv:a.cell? p=some v):b.cell? p=some v:=h.cell hv hn
theorem Gr.into {R:Nat→Prop} {a b c:World} {k:Nat} (h:Gr R a b) (g:Gr (· = k) b c) (hk:R k):Gr R a c:=
  h.trans (g.mono fun j _ e=>by have e:j=k:=e;rw [e];exact hk)
theorem Gr.intoR {R S:Nat→Prop} {a b c:World} (h:Gr R a b) (g:Gr S b c) (hk:∀ k,S k→R k):Gr R a c:=h.trans (g.mono fun j _ e=>hk j e)
theorem ShRow.avoid {A:Nat→Prop} {w:World} {b o:Nat} {row:Nat→List Value} {l:List Sh} (h:ShRow A w (some ⟨b,o,none⟩) row l) {i:Nat} (hi:i<l.length):¬ A b:=by
  obtain ⟨b',o',e,hn,-⟩:=h.at_ (by rintro rfl;simp at hi);simp only [Option.some.injEq,Addr.mk.injEq] at e;rw [e.1];exact hn
end Go.Gx
namespace Go.Gx
open Go.Proofs
theorem resST {P:Program} {fn:Func} {t t2:Tmp} {T:TypeId} {E:Env} {w:World} {b n:Nat} {T':TypeId} {cs:List Value} {v:Value} (hr:fn.results=#[.cell t T,.tmp t2]) (ht:aggT P T n=true) (hE:E t=.pointer (some ⟨b,0,none⟩)) (hE2:E t2=v) (hb:Box w b T' cs) (hl:cs.length=n):
    ∀ a:Array Value,(∀ t,a.getD t undef=E t)→(results fn a).run P w=.ok (.tuple #[.agg cs.toArray,v]) w:=by
  intro a ha;have hg:a.getD t undef=.pointer (some ⟨b,0,none⟩):=by rw [ha,hE]
  have hg2:a.getD t2 undef=v:=by rw [ha,hE2]
  have hload:(loadVar T ⟨b,0,none⟩).run P w=.ok (.agg cs.toArray) w:=by
    unfold aggT at ht;simp only [Bool.and_eq_true,beq_iff_eq] at ht;obtain ⟨h1,h2⟩:=ht;cases hu:P.underlying T with
    | none=>simp [hu] at h1
    | some d=>
      rw [hu] at h1;exact run_loadVar_row w b T' T cs.toArray (0,0) d hb hu (by cases d <;> simp_all) (by rw [h2];simp [hl])
  rw [Array.getD_eq_getD_getElem?] at hg hg2;simp [results,hr,hg,hg2,asAddr,hload]
def zeroS:Sh:=.mk 0 [] [] [] []
end Go.Gx
namespace Go.Gx
open Go.Sort
def sortNames (l:List Str):List Str:=(pairUp l (l.map fun _=>default)).map (·.1)
theorem sortNames_perm {l:List Str}:(sortNames l).Perm l:=pairUp_names (by simp)
theorem sortNames_sorted {l:List Str}:(sortNames l).Pairwise fun a b=>ltStr b a=false:=List.pairwise_map.2 pairUp_sorted
theorem sortNames_one {l m:List Str} (hp:m.Perm l) (hs:m.Pairwise fun a b=>ltStr b a=false):m=sortNames l:=
  List.Perm.eq_of_pairwise (le:=fun a b=>ltStr b a=false) (fun _ _ _ _ h1 h2=>ltStr_anti h2 h1) hs sortNames_sorted (hp.trans sortNames_perm.symm)
def uniV (a b:Sh):List Str:=a.names++b.names.filter fun x=>!decide (x∈a.names)
def uniU (a b:Sh):List Str:=sortNames (uniV a b)
theorem uniV_ok:UOk uniV:=fun a b na nb=>by
  unfold uniV;refine ⟨List.nodup_append.2 ⟨na,nb.filter _,fun x hx y hy e=>?_⟩,fun x=>?_⟩
  · subst e;have:=(List.mem_filter.1 hy).2;simp [hx] at this
  · rw [List.mem_append,List.mem_filter];constructor
    · rintro (h | h)
      · exact .inl h
      · exact .inr h.1
    · rintro (h | h)
      · exact .inl h
      · by_cases hx:x∈a.names
        · exact .inl hx
        · exact .inr ⟨h,by simp [hx]⟩
theorem uniU_ok:UOk uniU:=fun a b na nb=>by
  obtain ⟨h1,h2⟩:=uniV_ok a b na nb;exact ⟨sortNames_perm.nodup_iff.2 h1,fun x=>by rw [← h2 x];exact sortNames_perm.mem_iff⟩
noncomputable def bndS (up:Bool) (a b:Sh):Option Sh:=bndN uniU (SizeOf.sizeOf a+SizeOf.sizeOf b+1) up a b
noncomputable def wholeS (o:Option Sh):Sh × Bool:=match o with
  | some j=>if checkS j=0 then (j.sort,true) else (zeroS,false)
  | none=>(zeroS,false)
noncomputable def jmS (up:Bool) (a b:Sh):Sh × Bool:=if checkS a=0∧checkS b=0 then wholeS (bndS up a b) else (zeroS,false)
theorem whole_one {o p:Option Sh} (ho:∀ j,o=some j→j.allB fitsS=true) (hp:∀ j,p=some j→j.allB fitsS=true) (h:o.map Sh.sort=p.map Sh.sort):wholeS o=wholeS p:=by
  cases o with
  | none=>cases p with
    | none=>rfl
    | some q=>cases h
  | some j=>cases p with
    | none=>cases h
    | some q=>
      simp only [Option.map_some,Option.some.injEq] at h;have fj:=ho j rfl;have fq:=hp q rfl;have hc:checkS j=checkS q:=by
        have s:=congrArg Sh.size h;have d:=congrArg Sh.deep h;rw [Sh.sort_size j fj,Sh.sort_size q fq] at s;rw [Sh.sort_deep j fj,Sh.sort_deep q fq] at d;unfold checkS;rw [s,d,fj,fq]
      unfold wholeS;simp only [hc,h]
theorem jm_of {up:Bool} {a b j:Sh} (ha:checkS a=0) (hb:checkS b=0) (h:bndS up a b=some j) (hj:checkS j=0):jmS up a b=(j.sort,true):=by
  unfold jmS;rw [if_pos ⟨ha,hb⟩,h];unfold wholeS;simp only [hj,if_true]
theorem jm_ref {up:Bool} {a b:Sh} {M:Nat} (hM:SizeOf.sizeOf a+SizeOf.sizeOf b<M):jmS up a b=if checkS a=0∧checkS b=0 then wholeS (bndN uniV M up a b) else (zeroS,false):=by
  unfold jmS;split
  · next h=>
    have fa:=(check_zero h.1).2.2;have fb:=(check_zero h.2).2.2;exact whole_one (fun j hj=>(bnd_ok uniU_ok (Nat.lt_succ_self _) fa fb hj).fit) (fun j hj=>(bnd_ok uniV_ok hM fa fb hj).fit) (bnd_one uniU_ok uniV_ok (Nat.lt_succ_self _) hM fa fb).1
  · rfl
end Go.Gx
namespace Go.Gx
theorem zeroC (A:Nat→Prop) (w:World):ShC A w [.int .i64 0,S [],S [],.slice none 0 0,.slice none 0 0] zeroS:=ShC.intro (StrsAt.nil _ _ _ _ (by simp)) (ShsAt.nil _ _ _ _ (by simp)) (by simp) (by simp)
end Go.Gx
namespace Go.Gx
open Go.Proofs
theorem kfunb_ag25:aggT Tryz.prog 25 5=true:=by kernel_rfl
theorem kfunb_el25:elT Tryz.prog 25 5=true:=by kernel_rfl
theorem kfunb_en19:Go.Proofs.Enters Tryz.prog 19:=Go.Proofs.enters_of Tryz.func19 kr_ rfl
theorem kfunb_fo25_4:fieldOff Tryz.prog 25 4=some 4:=by kernel_rfl
theorem kfunb_mixed:Tryz.prog.follows .mixedOrders=true:=by kernel_rfl
theorem kfunb_oc23:oneCellT Tryz.prog 23=true:=by kernel_rfl
theorem kfunb_si25:structInfo Tryz.prog 25=some ([(0,1),(1,1),(2,1),(3,1),(4,1)],[Value.int .i64 0,S [],S [],Value.slice none 0 0,Value.slice none 0 0]):=by kernel_rfl
theorem kfunb_sz23:(Tryz.prog.info? 23).map (·.size)=some 1:=by kernel_rfl
theorem kfunb_sz25:(Tryz.prog.info? 25).map (·.size)=some 5:=by kernel_rfl
theorem kfunb_zr25:(Tryz.prog.info? 25).bind (·.zero)=some (Value.agg [Value.int .i64 0,S [],S [],Value.slice none 0 0,Value.slice none 0 0].toArray):=by kernel_rfl
def BndV (o:Option Sh) (M:Nat→Prop) (v:Value) (w':World):Prop:=∃ cs' s',v=.tuple #[.agg cs'.toArray,.bool o.isSome]∧ShC M w' cs' s'∧∀ r,o=some r→s'=r
theorem BndV.mono {o:Option Sh} {M M':Nat→Prop} {v:Value} {w':World} (h:BndV o M v w') (hM:∀ k,k<w'.heap.size→M' k→M k):BndV o M' v w':=by
  obtain ⟨cs,s,h1,h2,h3⟩:=h;exact ⟨cs,s,h1,h2.mono hM,h3⟩
def BndHyp (F:Bool→Sh→Sh→Option Sh) (a b:Sh):Prop:=∀ (up:Bool) (i j:Nat),i<a.parts.length→j<b.parts.length→∀ (A B:Nat→Prop) (xs ys:List Value) (w:World),ShC A w xs (a.parts.getD i default)→ShC B w ys (b.parts.getD j default)→
  Ret Tryz.prog 19 #[.agg xs.toArray,.agg ys.toArray,.bool up] w fun v w'=>BndV (F up (a.parts.getD i default) (b.parts.getD j default)) (fun k=>k<w.heap.size∧A k∧B k) v w'∧Bel w w'
theorem avc_of {M:Nat→Prop} {n base:Nat} {wc w1 w2:World} {vN vP:Value} {k:Nat} (hM:∀ k,n≤k→M k) (h0:n≤base) (hb:base≤wc.heap.size) (hN:∀ j,some j=vN.ownBlock→base≤j∧j<wc.heap.size) (hP:∀ j,some j=vP.ownBlock→base≤j∧j<wc.heap.size) (hs:w1.heap.size≤w2.heap.size)
    (h:AvC M n base w2 vN vP k):(k<wc.heap.size∧M k∧M k)∨w1.heap.size≤k:=by
  rcases h with h | h | h | h | h
  · exact .inl ⟨by omega,h.2,h.2⟩
  · exact .inl ⟨by omega,hM k h.1,hM k h.1⟩
  · have:=hN k h;exact .inl ⟨by omega,hM k om_,hM k om_⟩
  · have:=hP k h;exact .inl ⟨by omega,hM k om_,hM k om_⟩
  · exact .inr om_
theorem avc_M {M:Nat→Prop} {n base:Nat} {w2:World} {vN vP:Value} {k:Nat} (hM:∀ k,n≤k→M k) (h0:n≤base) (hN:∀ j,some j=vN.ownBlock→base≤j) (hP:∀ j,some j=vP.ownBlock→base≤j) (hs:n≤w2.heap.size) (h:AvC M n base w2 vN vP k):M k:=by
  rcases h with h | h | h | h | h
  · exact h.2
  · exact hM k h.1
  · exact hM k (by have:=hN k h;omega)
  · exact hM k (by have:=hP k h;omega)
  · exact hM k om_
abbrev zeroL:List Value:=[.int .i64 0,S [],S [],.slice none 0 0,.slice none 0 0]
theorem bndV_none {o:Option Sh} {M:Nat→Prop} {w':World} (h:o=none):BndV o M (.tuple #[.agg zeroL.toArray,.bool false]) w':=⟨zeroL,zeroS,by rw [h];rfl,zeroC _ _,fun r e=>by rw [h] at e;cases e⟩
set_option maxHeartbeats 1000000 in
theorem function_ok (F:Bool→Sh→Sh→Option Sh) (up:Bool) (a b:Sh) (hna:a.parts.length≤400) (hF:BndHyp F a b) (A0 B0:Nat→Prop) (xs ys:List Value) (w:World) (ha0:ShC A0 w xs a) (hb0:ShC B0 w ys b):
    Ret Tryz.prog 33 #[.agg xs.toArray,.agg ys.toArray,.bool up] w fun v w'=>BndV (funB F up a b) (fun k=>k<w.heap.size∧A0 k∧B0 k) v w'∧Bel w w':=by
  obtain ⟨M,hM,hM0⟩:∃ M:Nat→Prop,(∀ k,w.heap.size≤k→M k)∧(∀ k,M k↔(A0 k∨w.heap.size≤k)∧(B0 k∨w.heap.size≤k)):=⟨fun k=>(A0 k∨w.heap.size≤k)∧(B0 k∨w.heap.size≤k),fun k h=>⟨.inr h,.inr h⟩,fun k=>Iff.rfl⟩;have ha:ShC M w xs a:=ha0.up.mono fun k _ h=>((hM0 k).1 h).1
  have hb:ShC M w ys b:=hb0.up.mono fun k _ h=>((hM0 k).1 h).2
  clear ha0 hb0;have hRes:∀ k,k<w.heap.size∧A0 k∧B0 k→M k:=fun k h=>(hM0 k).2 ⟨.inl h.2.1,.inl h.2.2⟩
  obtain ⟨vna,vpa,rfl,hnA,hpa,-⟩:=id ha.inv;obtain ⟨p,cap,rowa,rfl,p1,p2,p3,hra⟩:=hpa;obtain ⟨vnb,vpb,rfl,hnB,hpb,-⟩:=id hb.inv;obtain ⟨q,capq,rowb,rfl,q1,q2,q3,hrb⟩:=hpb;refine ret_of_W_R Tryz.func33 rfl (Nat.le_of_ble_eq_true rfl) ?_;have hB:=Gr.refl (fun _=>False) w;refine W.seq (W.region (L.box (cs:=_) rfl rfl (fun w3 bx3 hw hz3=>?_)));have hB:=hB.carry hw;have hra:=hra.carry hw;have hrb:=hrb.carry hw;refine L.box (cs:=_) rfl rfl (fun w4 bx4 hw hz4=>?_);have hB:=hB.carry hw;have hra:=hra.carry hw;have hrb:=hrb.carry hw;have bx3:=bx3.carry hw;refine L.alloc (cs:=[Value.int .i64 0,S [],S [],Value.slice none 0 0,Value.slice none 0 0]) kfunb_zr25 rfl rfl (fun w6 bx6 hw hz6=>?_);have hB:=hB.carry hw;have hra:=hra.carry hw;have hrb:=hrb.carry hw;have bx3:=bx3.carry hw;have bx4:=bx4.carry hw;obtain ⟨b6,hb6⟩:∃ b6,b6=w4.heap.size:=⟨_,rfl⟩;rw [← hb6] at bx6 ⊢;obtain ⟨b4,hb4⟩:∃ b4,b4=w3.heap.size:=⟨_,rfl⟩;rw [← hb4] at bx4 ⊢;have z1:w.heap.size<b4∧b4<b6:=by omega
  have hx6:=bx6.lt;clear hb4 hb6 hz3 hz4 hz6;refine L.val (x_as (v:=.bool _) rfl) rfl ?_;refine L.nil (thn_n (W.seq (W.seq (W.region (L.val (x_fa kfunb_fo25_4 rfl) rfl ?_)))));refine L.val (x_ld (v:=.slice _ _ _) kfunb_oc23 rfl (bx3.cell0 rfl)) rfl ?_;refine L.val (x_len_slice Tryz.underlying23 rfl) rfl ?_;refine L.val (x_fa kfunb_fo25_4 rfl) rfl ?_;refine L.val (x_ld (v:=.slice _ _ _) kfunb_oc23 rfl (bx4.cell0 rfl)) rfl ?_;refine L.val (x_len_slice Tryz.underlying23 rfl) rfl ?_;refine L.val (x_neq rfl rfl) rfl ?_;refine L.nil (thn_n (W.cond (b:=_) rfl (fun g18=>?_) (fun g18=>?_)))
  ·have h18:=dne_t g18;refine W.seq (W.region (L.val (x_build (cells:=[.int _ _,S _,S _,.slice _ _ _,.slice _ _ _]) kfunb_si25 rfl rfl) rfl ?_));refine L.setRow kfunb_ag25 rfl rfl bx6 rfl rfl (by simp [Value.oneCell',S]) (fun wl13 bx6 hw hzl13=>?_);have hsz:=hB.size;have hB:=hB.set hw om_;have hra:=hra.carryR hw (fun k e=>hM k (by have e:k=_:=e;omega));have hrb:=hrb.carryR hw (fun k e=>hM k (by have e:k=_:=e;omega));have bx3:=bx3.carryR hw om_;have bx4:=bx4.carryR hw om_;refine L.val (x_as (v:=.bool _) rfl) rfl ?_;refine L.nil (thn_n (W.ret (thn_r (finR_mk (.inr rfl) ?_))));exact ⟨_,resST (v:=.bool false) rfl kfunb_ag25 rfl rfl bx6 rfl,bndV_none (by unfold funB;rw [if_pos om_]),hB⟩
  ·have h18:=dne_f g18;have hll:a.parts.length=b.parts.length:=by omega
   have hfe:funB F up a b=if (List.range a.parts.length).all (fun i=>(funG F up a b i).isSome)=true then some (.mk 8 [] [] [] ((List.range a.parts.length).map fun i=>(funG F up a b i).getD default)) else none:=by unfold funB;rw [if_neg (by simpa using hll)]
   refine W.skip (thn_n (W.seq (W.region (L.val (x_build (cells:=[.int _ _,S _,S _,.slice _ _ _,.slice _ _ _]) kfunb_si25 rfl rfl) rfl ?_))));refine L.alloc (cs:=[Value.int .i64 0,S [],S [],Value.slice none 0 0,Value.slice none 0 0]) kfunb_zr25 rfl rfl (fun w8 bx8 hw hz8=>?_);have hB:=hB.carry hw;have hra:=hra.carry hw;have hrb:=hrb.carry hw;have bx3:=bx3.carry hw;have bx4:=bx4.carry hw;have bx6:=bx6.carry hw;obtain ⟨b8,hb8⟩:∃ b8,b8=w6.heap.size:=⟨_,rfl⟩;rw [← hb8] at bx8 ⊢;refine L.setRow kfunb_ag25 rfl rfl bx8 rfl rfl (by simp [Value.oneCell',S]) (fun wl17 bx8 hw hzl17=>?_);have hsz:=hB.size;have hB:=hB.set hw om_;have hra:=hra.carryR hw (fun k e=>hM k (by have e:k=_:=e;omega));have hrb:=hrb.carryR hw (fun k e=>hM k (by have e:k=_:=e;omega));have bx3:=bx3.carryR hw om_;have bx4:=bx4.carryR hw om_;have bx6:=bx6.carryR hw om_;obtain ⟨base,hbase⟩:∃ base,base=wl17.heap.size:=⟨_,rfl⟩;have z5:w.heap.size<base∧b4<b8∧b6<b8∧b8<base∧w.heap.size<b8:=by have e:wl17.heap.size=w8.heap.size:=hzl17;omega
   have hG:Ge base wl17:=by rw [hbase];exact Nat.le_refl _
   clear hbase hb8;refine L.nil (thn_n (W.seq (W.seq (W.region (L.val (x_fa kfunb_fo25_4 rfl) rfl ?_)))));refine L.val (x_ld (v:=.slice _ _ _) kfunb_oc23 rfl (bx3.cell0 rfl)) rfl ?_;refine L.val (x_len_slice Tryz.underlying23 rfl) rfl ?_;refine L.val (x_mv (v:=.int _ _) rfl) rfl ?_;refine L.nil (thn_n (W.block (W.loop (fun m' E w'=>∃ (i:Nat) (vP:Value),m'=a.parts.length - i∧E 2=.bool up∧E 3=.pointer (some ⟨w.heap.size,0,none⟩)∧E 4=.pointer (some ⟨b4,0,none⟩)∧E 6=.pointer (some ⟨b6,0,none⟩)∧E 8=.pointer (some ⟨b8,0,none⟩)∧E 22=.slice p a.parts.length cap∧E 23=.int .i64 (a.parts.length:Nat)∧E 24=.int .i64 (i:Nat)∧(Bel w w')∧(ShRow M w' p rowa a.parts)∧(ShRow M w' q rowb b.parts)∧(Box w' w.heap.size 25 [.int .i64 a.kind,S a.of,S a.name,vna,.slice p a.parts.length cap])∧(Box w' b4 25 [.int .i64 b.kind,S b.of,S b.name,vnb,.slice q b.parts.length capq])∧(Box w' b6 25 [.int .i64 0,S [],S [],.slice none 0 0,.slice none 0 0])∧(Box w' b8 25 [.int .i64 8,S [],S [],.slice none 0 0,vP])∧(Ge base w')∧(i≤a.parts.length)∧((List.range i).all (fun i=>(funG F up a b i).isSome)=true)∧(ShsOwn (AvC M w.heap.size base w' (.slice none 0 0) vP) w' base 25 vP ((List.range i).map fun i=>(funG F up a b i).getD default))) (a.parts.length) ?_ ?_)))
   ·exact ⟨0,.slice none 0 0,by omega,vi_,vi_,vi_,vi_,vi_,vi_,vi_,vi_,ao_,ao_,ao_,ao_,ao_,ao_,ao_,ao_,ao_,(by rfl),(by exact ShsOwn.nil)⟩
   ·rintro _ E wL25 ⟨i,vP,em,e2,e3,e4,e6,e8,e22,e23,e24,hB,hra,hrb,bx3,bx4,bx6,bx8,hG,hi,hall,hP⟩;rw [upd_self e2,upd_self e3,upd_self e4,upd_self e6,upd_self e8,upd_self e22,upd_self e23,upd_self e24];refine W.seq (W.region (L.val (x_lss rfl rfl) rfl ?_));refine L.nil (thn_n (W.seq (W.cond (b:=_) rfl (fun g25=>?_) (fun g25=>?_))))
    ·have h25:=of_decide_eq_true g25;have hip:i<a.parts.length:=by omega
     have hjp:i<b.parts.length:=by omega
     obtain ⟨pb,po,rfl,-⟩:=hra.elem hip;obtain ⟨qb,qo,rfl,-⟩:=hrb.elem hjp;obtain ⟨xsP,hPo⟩:=hP.own;obtain ⟨aP,cP,rfl,hcP⟩:=own_shape hPo;clear hPo xsP;have hloP:∀ j,some j=(Value.slice aP ((List.range i).map fun i=>(funG F up a b i).getD default).length cP).ownBlock→base≤j:=fun j h=>(hP.lt h).1
     have hqP:∀ j,some j=(Value.slice aP ((List.range i).map fun i=>(funG F up a b i).getD default).length cP).ownBlock→j<wL25.heap.size:=fun j h=>(hP.lt h).2
     have hflag:(up == decide ((i:Int)=(a.parts.length:Int) - 1))=(up == decide (i+1=a.parts.length)):=by
       have:decide ((i:Int)=(a.parts.length:Int) - 1)=decide (i+1=a.parts.length):=decide_eq_decide.2 om_;rw [this]
     have hfe2:F (up == decide ((i:Int)=(a.parts.length:Int) - 1)) (a.parts.getD i default) (b.parts.getD i default)=funG F up a b i:=by unfold funG;rw [hflag]
     have hPl:((List.range i).map fun i=>(funG F up a b i).getD default).length=i:=by simp
     have hsL:=hB.size;refine W.skip (thn_n (W.seq (W.block (W.seq (W.region (L.val (x_mv (v:=.int _ _) rfl) rfl ?_))))));refine L.val (x_as (v:=.int _ _) rfl) rfl ?_;refine L.nil (thn_n (W.cut (fun D' E' w'=>D'=[]∧∃ (b10:Nat) (cs:List Value) (t:Sh),E' 2=.bool up∧E' 3=.pointer (some ⟨w.heap.size,0,none⟩)∧E' 4=.pointer (some ⟨b4,0,none⟩)∧E' 6=.pointer (some ⟨b6,0,none⟩)∧E' 8=.pointer (some ⟨b8,0,none⟩)∧E' 10=.pointer (some ⟨b10,0,none⟩)∧E' 11=.bool (funG F up a b i).isSome∧E' 22=.slice (some ⟨pb,po,none⟩) a.parts.length cap∧E' 23=.int .i64 (a.parts.length:Nat)∧E' 24=.int .i64 (i:Nat)∧wL25.heap.size≤b10∧(∀ r,funG F up a b i=some r→t=r)∧Bel w w'∧Bel wL25 w'∧ShRow M w' (some ⟨pb,po,none⟩) rowa a.parts∧ShRow M w' (some ⟨qb,qo,none⟩) rowb b.parts∧Box w' w.heap.size 25 [.int .i64 a.kind,S a.of,S a.name,vna,.slice (some ⟨pb,po,none⟩) a.parts.length cap]∧Box w' b4 25 [.int .i64 b.kind,S b.of,S b.name,vnb,.slice (some ⟨qb,qo,none⟩) b.parts.length capq]∧Box w' b6 25 [.int .i64 0,S [],S [],.slice none 0 0,.slice none 0 0]∧Box w' b8 25 [.int .i64 8,S [],S [],.slice none 0 0,(.slice aP ((List.range i).map fun i=>(funG F up a b i).getD default).length cP)]∧Ge base w'∧ShsOwn (AvC M w.heap.size base wL25 (.slice none 0 0) (.slice aP ((List.range i).map fun i=>(funG F up a b i).getD default).length cP)) w' base 25 (.slice aP ((List.range i).map fun i=>(funG F up a b i).getD default).length cP) ((List.range i).map fun i=>(funG F up a b i).getD default)∧Box w' b10 25 cs∧ShC (AvC M w.heap.size base w' (.slice none 0 0) (.slice aP ((List.range i).map fun i=>(funG F up a b i).getD default).length cP)) w' cs t) ?_ ?_))
     ·refine W.drawF 25 kfunb_mixed (fun wF28 hB0=>?_);refine LAC.takeN (i:=0) rfl kr_ kr_ kr_ kr_ (fun w hw=>x_fa kfunb_fo25_4 rfl) rfl ?_;refine LAC.takeN (i:=1) rfl kr_ kr_ kr_ kr_ (fun w hw=>x_ld (v:=.slice _ _ _) kfunb_oc23 rfl (hw.keep (bx3.cell0 rfl))) rfl ?_;refine LAC.takeN (i:=2) rfl kr_ kr_ kr_ kr_ (fun w hw=>x_mv (v:=.int _ _) rfl) rfl ?_;refine LAC.takeN (i:=3) rfl kr_ kr_ kr_ kr_ (fun w hw=>x_ia (j:=i) Tryz.underlying23 kfunb_sz25 rfl rfl om_ om_) rfl ?_;refine LAC.takeN (i:=4) rfl kr_ kr_ kr_ kr_ (fun w hw=>x_ldn (vs:=rowa i) kfunb_ag25 rfl (hra.five i hip) (hw.keepRow (hra.five i hip) (hra.elemAt hip))) rfl ?_;refine LAC.takeN (i:=5) rfl kr_ kr_ kr_ kr_ (fun w hw=>x_fa kfunb_fo25_4 rfl) rfl ?_;refine LAC.takeN (i:=6) rfl kr_ kr_ kr_ kr_ (fun w hw=>x_ld (v:=.slice _ _ _) kfunb_oc23 rfl (hw.keep (bx4.cell0 rfl))) rfl ?_;refine LAC.takeN (i:=7) rfl kr_ kr_ kr_ kr_ (fun w hw=>x_mv (v:=.int _ _) rfl) rfl ?_;refine LAC.takeN (i:=8) rfl kr_ kr_ kr_ kr_ (fun w hw=>x_ia (j:=i) Tryz.underlying23 kfunb_sz25 rfl rfl om_ om_) rfl ?_;refine LAC.takeN (i:=9) rfl kr_ kr_ kr_ kr_ (fun w hw=>x_ldn (vs:=rowb i) kfunb_ag25 rfl (hrb.five i hjp) (hw.keepRow (hrb.five i hjp) (hrb.elemAt hjp))) rfl ?_;refine LAC.takeN (i:=10) rfl kr_ kr_ kr_ kr_ (fun w hw=>x_mv (v:=.bool _) rfl) rfl ?_;refine LAC.takeN (i:=11) rfl kr_ kr_ kr_ kr_ (fun w hw=>x_mv (v:=.int _ _) rfl) rfl ?_;refine LAC.takeN (i:=12) rfl kr_ kr_ kr_ kr_ (fun w hw=>x_fa kfunb_fo25_4 rfl) rfl ?_;refine LAC.takeN (i:=13) rfl kr_ kr_ kr_ kr_ (fun w hw=>x_ld (v:=.slice _ _ _) kfunb_oc23 rfl (hw.keep (bx3.cell0 rfl))) rfl ?_;refine LAC.takeN (i:=14) rfl kr_ kr_ kr_ kr_ (fun w hw=>x_len_slice Tryz.underlying23 rfl) rfl ?_;refine LAC.takeN (i:=15) rfl kr_ kr_ kr_ kr_ (fun w hw=>x_sub rfl rfl (wr64 om_)) rfl ?_;refine LAC.takeN (i:=16) rfl kr_ kr_ kr_ kr_ (fun w hw=>x_eql rfl rfl) rfl ?_;refine LAC.takeN (i:=17) rfl kr_ kr_ kr_ kr_ (fun w hw=>x_eqb Tryz.underlying4 rfl rfl) rfl ?_;refine LAC.step (rs:=[18,22]) (fun _=>hB0) kr_ (by simp) ⟨⟨_,rfl,?_⟩,⟨_,rfl,?_⟩,trivial⟩
      ·have hs46:=hB0.size;refine L.ret (x_call kfunb_en19 rfl) rfl (hF (up == decide ((i:Int)=(a.parts.length:Int) - 1)) i i hip hjp M M _ _ _ ((hra.each i hip).carry hB0) ((hrb.each i hjp).carry hB0)) ?_;rintro _ w46 ⟨⟨cs46,s46,rfl,ht,hs46r⟩,hw⟩;have hB0:=hB0.carry hw;have hs46b:=hw.size;have ht:=ht.up;refine L.nil (thn_n (LAC.takeN (i:=19) rfl kr_ kr_ kr_ kr_ (fun w hw=>x_mv (v:=_) rfl) rfl ?_));refine LAC.takeN (i:=20) rfl kr_ kr_ kr_ kr_ (fun w hw=>x_ext (v:=_) rfl rfl) rfl ?_;refine LAC.takeN (i:=21) rfl kr_ kr_ kr_ kr_ (fun w hw=>x_ext (v:=.bool _) rfl rfl) rfl ?_;refine LAC.step (rs:=[22]) (fun _=>hB0) kr_ (by simp) ⟨⟨_,rfl,?_⟩,trivial⟩;have hs10:=hB0.size;refine L.alloc (cs:=[Value.int .i64 0,S [],S [],Value.slice none 0 0,Value.slice none 0 0]) kfunb_zr25 rfl rfl (fun w10 bx10 hw hz10=>?_);have hB0:=hB0.carry hw;have ht:=ht.carry hw;refine L.nil (thn_n (LAC.step (rs:=[23]) (fun _=>hB0) kr_ (by simp) ⟨⟨_,rfl,?_⟩,trivial⟩));refine L.setRow kfunb_ag25 rfl rfl bx10 rfl ht.len ht.one (fun wl48 bx10 hw hzl48=>?_);have hB0:=hB0.set hw om_;have ht:=ht.carryR hw (fun j e=>by have e:j=_:=e;first | exact .inr (.inl om_) | exact .inr om_ | exact .inl ⟨by omega,hM _ om_,hM _ om_⟩);refine L.nil (thn_n (LAC.takeN (i:=24) rfl kr_ kr_ kr_ kr_ (fun w hw=>x_as (v:=.bool _) rfl) rfl ?_));refine LAC.doneF kr_ hB0 ?_;have hB:=hB.carry hB0;have hra:=hra.carry hB0;have hrb:=hrb.carry hB0;have bx3:=bx3.carry hB0;have bx4:=bx4.carry hB0;have bx6:=bx6.carry hB0;have bx8:=bx8.carry hB0;have hG:=hG.carry hB0;have hP:=hP.carry hB0;refine thn_n ?_;have hse:=hB0.size;have hGL:base≤wL25.heap.size:=‹Ge base wL25›;refine ⟨rfl,_,cs46,s46,rfl,rfl,rfl,rfl,rfl,rfl,vb (by rw [hfe2]),rfl,rfl,rfl,by omega,fun r e=>hs46r r (by rw [hfe2];exact e),hB,hB0,hra,hrb,bx3,bx4,bx6,bx8,hG,hP,bx10,ht.mono (fun j _ h=>?_)⟩;exact avc_of (vN:=.slice none 0 0) hM om_ om_ (fun j h=>by cases h) (fun j h=>⟨hloP j h,by have:=hqP j h;omega⟩) om_ h
      ·have hs10:=hB0.size;refine L.alloc (cs:=[Value.int .i64 0,S [],S [],Value.slice none 0 0,Value.slice none 0 0]) kfunb_zr25 rfl rfl (fun w10 bx10 hw hz10=>?_);have hB0:=hB0.carry hw;refine L.nil (thn_n (LAC.step (rs:=[18]) (fun _=>hB0) kr_ (by simp) ⟨⟨_,rfl,?_⟩,trivial⟩));have hs46:=hB0.size;refine L.ret (x_call kfunb_en19 rfl) rfl (hF (up == decide ((i:Int)=(a.parts.length:Int) - 1)) i i hip hjp M M _ _ _ ((hra.each i hip).carry hB0) ((hrb.each i hjp).carry hB0)) ?_;rintro _ w46 ⟨⟨cs46,s46,rfl,ht,hs46r⟩,hw⟩;have hB0:=hB0.carry hw;have bx10:=bx10.carry hw;have hs46b:=hw.size;have ht:=ht.up;refine L.nil (thn_n (LAC.takeN (i:=19) rfl kr_ kr_ kr_ kr_ (fun w hw=>x_mv (v:=_) rfl) rfl ?_));refine LAC.takeN (i:=20) rfl kr_ kr_ kr_ kr_ (fun w hw=>x_ext (v:=_) rfl rfl) rfl ?_;refine LAC.takeN (i:=21) rfl kr_ kr_ kr_ kr_ (fun w hw=>x_ext (v:=.bool _) rfl rfl) rfl ?_;refine LAC.step (rs:=[23]) (fun _=>hB0) kr_ (by simp) ⟨⟨_,rfl,?_⟩,trivial⟩;refine L.setRow kfunb_ag25 rfl rfl bx10 rfl ht.len ht.one (fun wl48 bx10 hw hzl48=>?_);have hB0:=hB0.set hw om_;have ht:=ht.carryR hw (fun j e=>by have e:j=_:=e;first | exact .inr (.inl om_) | exact .inr om_ | exact .inl ⟨by omega,hM _ om_,hM _ om_⟩);refine L.nil (thn_n (LAC.takeN (i:=24) rfl kr_ kr_ kr_ kr_ (fun w hw=>x_as (v:=.bool _) rfl) rfl ?_));refine LAC.doneF kr_ hB0 ?_;have hB:=hB.carry hB0;have hra:=hra.carry hB0;have hrb:=hrb.carry hB0;have bx3:=bx3.carry hB0;have bx4:=bx4.carry hB0;have bx6:=bx6.carry hB0;have bx8:=bx8.carry hB0;have hG:=hG.carry hB0;have hP:=hP.carry hB0;refine thn_n ?_;have hse:=hB0.size;have hGL:base≤wL25.heap.size:=‹Ge base wL25›;refine ⟨rfl,_,cs46,s46,rfl,rfl,rfl,rfl,rfl,rfl,vb (by rw [hfe2]),rfl,rfl,rfl,by omega,fun r e=>hs46r r (by rw [hfe2];exact e),hB,hB0,hra,hrb,bx3,bx4,bx6,bx8,hG,hP,bx10,ht.mono (fun j _ h=>?_)⟩;exact avc_of (vN:=.slice none 0 0) hM om_ om_ (fun j h=>by cases h) (fun j h=>⟨hloP j h,by have:=hqP j h;omega⟩) om_ h
     ·rintro D E w49 ⟨rfl,b10,cs,t,e2,e3,e4,e6,e8,e10,e11,e22,e23,e24,z10,htr,hB,hBL,hra,hrb,bx3,bx4,bx6,bx8,hG,hP,bx10,ht⟩;rw [upd_self e2,upd_self e3,upd_self e4,upd_self e6,upd_self e8,upd_self e10,upd_self e11,upd_self e22,upd_self e23,upd_self e24];have hGL:base≤w49.heap.size:=hG;have hBLs:=hBL.size;have hsB:=hB.size;refine W.seq (W.seq (W.region (L.val (x_mv (v:=.bool _) rfl) rfl ?_)));refine L.val (x_not rfl) rfl ?_;refine L.nil (thn_n (W.cond (b:=_) rfl (fun g50=>?_) (fun g50=>?_)))
      ·have h50:=(not_t g50);have hnone:funG F up a b i=none:=by simpa using h50
       refine W.seq (W.region (L.val (x_build (cells:=[.int _ _,S _,S _,.slice _ _ _,.slice _ _ _]) kfunb_si25 rfl rfl) rfl ?_));refine L.setRow kfunb_ag25 rfl rfl bx6 rfl rfl (by simp [Value.oneCell',S]) (fun wl53 bx6 hw hzl53=>?_);have hsz:=hB.size;have hB:=hB.set hw om_;refine L.val (x_as (v:=.bool _) rfl) rfl ?_;refine L.nil (thn_n (W.ret (thn_r (blk_r (thn_r (thn_r (blk_r (thn_r (finR_mk (.inr rfl) ?_)))))))));exact ⟨_,resST (v:=.bool false) rfl kfunb_ag25 rfl rfl bx6 rfl,bndV_none (by rw [hfe,if_neg];rw [all_missR hip (by rw [hnone];rfl)];simp),hB⟩
      ·have h50:=(not_f g50);have hsome:(funG F up a b i).isSome=true:=by simpa using h50
       have hte:t=(funG F up a b i).getD default:=by obtain ⟨r,hr⟩:=Option.isSome_iff_exists.1 hsome;rw [htr r hr,hr];rfl
       obtain ⟨rows,r1,r2,r3,r4⟩:=hP;have hR0:=Gr.refl (fun k=>k=b8∨some k=(Value.slice aP ((List.range i).map fun i=>(funG F up a b i).getD default).length cP).ownBlock) w49;refine W.skip (thn_n (W.region (L.val (x_fa kfunb_fo25_4 rfl) rfl ?_)));refine L.val (x_ld (v:=.slice _ _ _) kfunb_oc23 rfl (bx8.cell0 rfl)) rfl ?_;refine L.val (x_ldn (vs:=cs) kfunb_ag25 rfl ht.len (bx10.row ht.len)) rfl ?_;refine L.bs (sz:=5) (cells:=cs) Tryz.underlying23 kfunb_el25 rfl (by show (partsOk 5 0 [(0,Value.agg cs.toArray)] && decide ([((0:Nat),Value.agg cs.toArray)].length=1) && decide (0<1) && decide (1 * 5≤16777216))=true;simp [partsOk,ht.len,Value.cells]) (by show ([((0:Nat),Value.agg cs.toArray)].map fun x=>x.2.cells.toList).flatten=cs;simp [Value.cells]) rfl (fun w55 bx55 hw hz55=>?_);have hB:=hB.carry hw;have hra:=hra.carry hw;have hrb:=hrb.carry hw;have bx3:=bx3.carry hw;have bx4:=bx4.carry hw;have bx6:=bx6.carry hw;have bx8:=bx8.carry hw;have bx10:=bx10.carry hw;have hG:=hG.carry hw;have r2:=r2.carry hw;have ht:=ht.carry hw;have hR0:=hR0.carry hw;have hs56:=hR0.size;refine L.append (m:=1) Tryz.underlying23 kfunb_el25 rfl rfl rfl r2 ht.len bx55.news (ShC.one ht) om_ (Nat.le_trans hGL hs56) (fun v56 w56 hO56 hg hiff56 hob56=>?_);obtain ⟨g56,c56,rfl⟩:=own_form hO56;have hav:(Value.slice (some ⟨g56,0,none⟩) (((List.range i).map fun i=>(funG F up a b i).getD default).length+1) c56).ownBlock=(Value.slice aP ((List.range i).map fun i=>(funG F up a b i).getD default).length cP).ownBlock∨∀ k,some k=(Value.slice (some ⟨g56,0,none⟩) (((List.range i).map fun i=>(funG F up a b i).getD default).length+1) c56).ownBlock→w49.heap.size≤k:=
         hob56.imp id (fun h k e=>by have e2:=Option.some.inj (e.trans h);omega)
       have hsB5:=hB.size;have hB:=hB.step hg (fun k hk e=>by have:=hloP k e;omega);have hra:=hra.carryR hg (fun k e=>hM k (by have:=hloP k e;omega));have hrb:=hrb.carryR hg (fun k e=>hM k (by have:=hloP k e;omega));have bx3:=bx3.carryR hg (fun e=>by have:=hloP _ e;omega);have bx4:=bx4.carryR hg (fun e=>by have:=hloP _ e;omega);have bx6:=bx6.carryR hg (fun e=>by have:=hloP _ e;omega);have bx8:=bx8.carryR hg (fun e=>by have:=hloP _ e;omega);have hG:=hG.carryR hg;have ht:=ht.carryR hg (fun k e=>.inr (.inr (.inr (.inl e))));have hR0:=hR0.trans (hg.mono fun k _ e=>.inr e);refine L.val (x_fa kfunb_fo25_4 rfl) rfl ?_;refine L.set (v:=.slice _ _ _) kfunb_sz23 rfl rfl rfl bx8 rfl (fun wl61 bx8 hw hzl61=>?_);have hsz:=hB.size;have hB:=hB.set hw om_;have hra:=hra.carryR hw (fun k e=>hM k (by have e:k=_:=e;omega));have hrb:=hrb.carryR hw (fun k e=>hM k (by have e:k=_:=e;omega));have bx3:=bx3.carryR hw om_;have bx4:=bx4.carryR hw om_;have bx6:=bx6.carryR hw om_;have hG:=hG.carryR hw;have ht:=ht.carryR hw (fun j e=>by have e:j=_:=e;first | exact .inr (.inl om_) | exact .inr om_ | exact .inl ⟨by omega,hM _ om_,hM _ om_⟩);have hR0:=hR0.trans (hw.mono fun k _ e=>.inl e);have hO56:=Own.carryR hO56 hw (fun j hj e=>by have e:j=_:=e;have h1:=(Own.lt hO56 hj).1;omega);have hi':i+1≤a.parts.length:=hip;have hsl:=hR0.size;have hP:ShsOwn (AvC M w.heap.size base wl61 (.slice none 0 0) (.slice (some ⟨g56,0,none⟩) (((List.range i).map fun i=>(funG F up a b i).getD default).length+1) c56)) wl61 base 25 (.slice (some ⟨g56,0,none⟩) (((List.range i).map fun i=>(funG F up a b i).getD default).length+1) c56) ((List.range (i+1)).map fun i=>(funG F up a b i).getD default):=by
         rw [map_range_succ,← hte];exact ShsOwn.snocW r1 r3 r4 (ht.mono (fun j _ h=>avc_step hsl (.inl rfl) hav h)) hO56 hR0 (fun j e=>by
           rcases e with e | e
           · exact .inr (.inl om_)
           · exact .inr (.inr (.inr (.inl e)))) (fun j h=>avc_step om_ (.inl rfl) (hav.imp id (fun h k e=>by have:=h k e;omega)) h)
       refine L.nil (blk_n (thn_n (W.region (L.val (x_add rfl rfl (wr64 om_)) rfl ?_))));refine L.val (x_mv (v:=.int _ _) rfl) rfl ?_;refine L.nil (thn_n ⟨rfl,?_⟩);refine ⟨_,?_,i+1,_,rfl,vi_,vi_,vi_,vi_,vi_,vi_,vi_,vi_,ao_,ao_,ao_,ao_,ao_,ao_,ao_,ao_,ao_,(by rw [all_succ,hall,hsome];rfl),ao_⟩;omega
    ·have h25:=dlt_f g25;refine W.exit (thn_x (thn_x (blk_hit ?_)));refine thn_n (W.seq (W.region ?_));have hii:i=a.parts.length:=by omega
     obtain ⟨xsP,hPo⟩:=hP.own;refine L.val (x_ldn (vs:=_) kfunb_ag25 rfl rfl (bx8.row rfl)) rfl ?_;refine L.setRow kfunb_ag25 rfl rfl bx6 rfl rfl (by intro v hv;simp only [List.mem_cons,List.not_mem_nil,or_false] at hv;rcases hv with rfl | rfl | rfl | rfl | rfl <;> first | rfl | exact own_one hPo) (fun wl65 bx6 hw hzl65=>?_);have hsz:=hB.size;have hB:=hB.set hw om_;have bx8:=bx8.carryR hw om_;have hG:=hG.carryR hw;have hP:=hP.carryA (A':=_) hw (fun j hj e=>by have e:j=_:=e;have h1:=(hP.lt hj).1;omega) (fun j e=>by have e:j=_:=e;exact .inr (.inl om_)) (fun _ h=>h);refine L.val (x_as (v:=.bool _) rfl) rfl ?_;refine L.nil (thn_n (W.ret (finR_mk (.inr rfl) ?_)));have hall2:(List.range a.parts.length).all (fun i=>(funG F up a b i).isSome)=true:=by rw [← hii];exact hall
     have he:funB F up a b=some (.mk 8 [] [] [] ((List.range i).map fun i=>(funG F up a b i).getD default)):=by rw [hfe,if_pos hall2,hii]
     refine ⟨_,resST (v:=.bool true) rfl kfunb_ag25 rfl rfl bx6 rfl,⟨_,_,by rw [he];rfl,?_,fun r e=>by rw [he] at e;exact Option.some.inj e⟩,hB⟩;exact ShC.intro (StrsAt.nil _ _ _ _ (by simp)) (hP.done (by simp;omega) (fun j h=>.inl ⟨h.1,hRes j h⟩) (fun j h=>by omega)) (by simp) (by simp)
end Go.Gx
