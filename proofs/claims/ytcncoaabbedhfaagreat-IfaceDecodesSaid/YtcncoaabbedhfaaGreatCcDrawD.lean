/- In a region that draws and stores: what reads alone is taken first, by what holds all the time, or up to the first store. Conditions: none. -/
import Derived.Laws.IdiomStrings
import Derived.Laws.IdiomCopy
import Derived.Lib.BufferWrite
import Derived.Laws.Bits64b
import Derived.Shelf.Strings.Repeat
import Derived.Shelf.Small.Bits
import Derived.Shelf.Strconv.Itoa0
import Derived.Test.YtcncoaabbedhfaaGreatProg
import Derived.Lib.Builder
import Derived.Lib.AppendStr
import Derived.Laws.Externs
import Derived.Test.YtcncoaabbedhfaaGreatCcSort3
import Derived.Test.YtcncoaabbedhfaaGreatCcOwn
namespace Go.Gx
variable {P:Program} {ops:Array Oper} {Q:Exit→Act→World→Prop} {C0 C1:World→Prop}
def wpAnyD (P:Program) (ops:Array Oper) (C0 C1:World→Prop) (st:Nat) (Q:Exit→Act→World→Prop):Nat→Array Bool→Act→World→Prop
  | 0,listed,a,w=>C0 w∧(listed.getD st false=false→C1 w)∧Region.ready .any ops listed=[]∧Q .normal a w
  | f+1,listed,a,w=>C0 w∧(listed.getD st false=false→C1 w)∧(Region.ready .any ops listed=[]→Q .normal a w)∧∀ i∈Region.ready .any ops listed,wpOp P ops Q i (wpAnyD P ops C0 C1 st Q f (listed.setIfInBounds i true)) a w
theorem wpAnyD.any {st:Nat}:∀ (f:Nat) (listed:Array Bool) (a:Act) (w:World),wpAnyD P ops C0 C1 st Q f listed a w→wpAny P .any ops Q f listed a w
  | 0,_,_,_,h=>h.2.2
  | f+1,_,_,_,h=>⟨h.2.2.1,fun i hi=>wpOp_mono (fun _ _ h'=>wpAnyD.any f _ _ _ h') (h.2.2.2 i hi)⟩
theorem wpAnyD.here {st f:Nat} {listed:Array Bool} {a:Act} {w:World} (h:wpAnyD P ops C0 C1 st Q f listed a w):C0 w∧(listed.getD st false=false→C1 w):=by
  cases f <;> exact ⟨h.1,h.2.1⟩
theorem wpAnyD.take0 {i st:Nat} {oi:Oper} {v:Value} (hi:ops[i]? = some oi) (hsel:∀ (j:Nat) (o:Oper) cs b,ops[j]? = some o→o.op≠.select cs b)
    (hQ:∀ c a w,Q (.panic c) (a.put oi.dst v) w→Q (.panic c) a w) (hne:st≠i):
    ∀ (fuel:Nat) (listed:Array Bool) (a:Act) (w:World),
      (∀ j oj,ops[j]? = some oj→j≠i→listed.getD j true=false→(∀ e∈oj.after,Region.binds .any e=true→e.on≠i)→oi.apart ops oj=true)→
      i∈Region.ready .any ops listed→YF P ops C0 oi v a→
      wpAnyD P ops C0 C1 st Q fuel (listed.setIfInBounds i true) (a.put oi.dst v) w→wpAnyD P ops C0 C1 st Q (fuel+1) listed a w:=by
  intro fuel;induction fuel with
  | zero=>
    intro listed a w _ hr hy H;refine ⟨H.1,fun h=>H.2.1 (by rw [getD_set_ne false hne.symm];exact h),fun h=>(by rw [h] at hr;cases hr),fun j hj=>?_⟩;by_cases hji:j=i
    · subst hji;exact hy.take hi H.1 H
    · have:=ready_mono hj hji;rw [H.2.2.1] at this;cases this
  | succ fuel ih=>
    intro listed a w hfree hr hy H;have hun:=(mem_ready.1 hr).1;refine ⟨H.1,fun h=>H.2.1 (by rw [getD_set_ne false hne.symm];exact h),fun h=>(by rw [h] at hr;cases hr),fun j hj=>?_⟩;by_cases hji:j=i
    · subst hji;exact hy.take hi H.1 H
    · have h1:=H.2.2.2 j (ready_mono hj hji);obtain ⟨hjun,oj,hoj,hall⟩:=mem_ready.1 hj;have hnot:∀ e∈oj.after,Region.binds .any e=true→e.on≠i:=fun e he hb heq=>by
        have h1:=hall e he hb;rw [heq,unlisted hun] at h1;cases h1
      have h2:=wpOp_lateF hoj (hfree j oj hoj hji hjun hnot) (fun cs b=>hsel i oi cs b hi) (fun cs b=>hsel j oj cs b hoj) hQ hy h1;refine wpOp_mono (fun a' w' h3=>ih (listed.setIfInBounds j true) a' w' (fun k ok hk hki hu hno=>?_) (ready_mono hr (Ne.symm hji)) h3.1 ?_) h2
      · refine hfree k ok hk hki ?_ hno;by_cases hjk:j=k
        · subst hjk;exact hjun
        · rw [getD_set_ne true hjk] at hu;exact hu
      · rw [Array.setIfInBounds_comm _ _ hji];exact h3.2
theorem wpAnyD.take1 {i st:Nat} {oi ost:Oper} {v:Value} (hi:ops[i]? = some oi) (hsel:∀ (j:Nat) (o:Oper) cs b,ops[j]? = some o→o.op≠.select cs b)
    (hQ:∀ c a w,Q (.panic c) (a.put oi.dst v) w→Q (.panic c) a w) (hst:ops[st]? = some ost) (hdep:∃ e∈ost.after,Region.binds .any e=true∧e.on=i) (hne:st≠i):
    ∀ (fuel:Nat) (listed:Array Bool) (a:Act) (w:World),
      (listed.getD st false=true→listed.getD i false=true)→
      (∀ j oj,ops[j]? = some oj→j≠i→listed.getD j true=false→(∀ e∈oj.after,Region.binds .any e=true→e.on≠i)→oi.apart ops oj=true)→
      i∈Region.ready .any ops listed→YF P ops C1 oi v a→
      wpAnyD P ops C0 C1 st Q fuel (listed.setIfInBounds i true) (a.put oi.dst v) w→wpAnyD P ops C0 C1 st Q (fuel+1) listed a w:=by
  intro fuel;induction fuel with
  | zero=>
    intro listed a w hcl _ hr hy H;have hun:=(mem_ready.1 hr).1;have hst0:listed.getD st false=false:=by
      cases hh:listed.getD st false
      · rfl
      · have:=hcl hh;rw [unlisted hun] at this;cases this
    have hC:C1 w:=H.2.1 (by rw [getD_set_ne false hne.symm];exact hst0);refine ⟨H.1,fun _=>hC,fun h=>(by rw [h] at hr;cases hr),fun j hj=>?_⟩;by_cases hji:j=i
    · subst hji;exact hy.take hi hC H
    · have:=ready_mono hj hji;rw [H.2.2.1] at this;cases this
  | succ fuel ih=>
    intro listed a w hcl hfree hr hy H;have hun:=(mem_ready.1 hr).1;have hst0:listed.getD st false=false:=by
      cases hh:listed.getD st false
      · rfl
      · have:=hcl hh;rw [unlisted hun] at this;cases this
    have hC:C1 w:=H.2.1 (by rw [getD_set_ne false hne.symm];exact hst0);refine ⟨H.1,fun _=>hC,fun h=>(by rw [h] at hr;cases hr),fun j hj=>?_⟩;by_cases hji:j=i
    · subst hji;exact hy.take hi hC H
    · have h1:=H.2.2.2 j (ready_mono hj hji);obtain ⟨hjun,oj,hoj,hall⟩:=mem_ready.1 hj;have hnot:∀ e∈oj.after,Region.binds .any e=true→e.on≠i:=fun e he hb heq=>by
        have h1:=hall e he hb;rw [heq,unlisted hun] at h1;cases h1
      have hjst:j≠st:=fun e=>by
        subst e;rw [hst] at hoj;cases hoj;obtain ⟨e,he,hb,hon⟩:=hdep;exact hnot e he hb hon
      have h2:=wpOp_lateF hoj (hfree j oj hoj hji hjun hnot) (fun cs b=>hsel i oi cs b hi) (fun cs b=>hsel j oj cs b hoj) hQ hy h1;refine wpOp_mono (fun a' w' h3=>ih (listed.setIfInBounds j true) a' w' (fun h=>?_) (fun k ok hk hki hu hno=>?_) (ready_mono hr (Ne.symm hji)) h3.1 ?_) h2
      · rw [getD_set_ne false hjst,hst0] at h;cases h
      · refine hfree k ok hk hki ?_ hno;by_cases hjk:j=k
        · subst hjk;exact hjun
        · rw [getD_set_ne true hjk] at hu;exact hu
      · rw [Array.setIfInBounds_comm _ _ hji];exact h3.2
section
variable {n st:Nat} {K:List Deferred→Env→World→Prop} {D:List Deferred} {E:Env} {w:World}
def LAD (P:Program) (n:Nat) (ops:Array Oper) (C0 C1:World→Prop) (st:Nat) (K:List Deferred→Env→World→Prop) (fuel:Nat) (listed:Array Bool) (D:List Deferred) (E:Env) (w:World):Prop:=
  ∀ a,Fr D n a E→wpAnyD P ops C0 C1 st (lift n (nrm K)) fuel listed a w
theorem W.drawD {id:Nat} {l:List Oper} {Q:Post} (R R1:Nat→Prop) (st:Nat) (hm:P.follows .mixedOrders=true)
    (h:∀ w1,Bel w w1→LAD P n l.toArray (Gr R w1) (Gr R1 w1) st (Q .normal) l.length (Array.replicate l.length false) D E w1):W P n (.region id l.toArray true) Q D E w:=by
  intro a ha;refine wp_mono (wp_region_any (Q:=lift n (nrm (Q .normal))) hm ?_) ?_
  · have:=(h _ (bel_drew _) a ha).any;simpa using this
  · rintro e a' w' ⟨he,E',hE,rfl,hq⟩;exact ⟨he,E',hE,hq⟩
theorem LAD.take0 {fuel:Nat} {listed:Array Bool} {i d:Nat} {op:Op} {t:TypeId} {p:String} {af:Array Edge} {v:Value}
    (ho:ops[i]? = some ⟨some d,op,t,p,af,none⟩) (hs:Region.noSelect ops=true) (hf:Region.free .any ops listed i=true) (hr:(Region.ready .any ops listed).contains i=true) (hne:Nat.beq st i=false)
    (hx:∀ w,C0 w→X P op t E w v w) (hd:Nat.blt d n=true) (k:LAD P n ops C0 C1 st K fuel (listed.setIfInBounds i true) D (upd E d v) w):LAD P n ops C0 C1 st K (fuel+1) listed D E w:=by
  intro a ha;refine wpAnyD.take0 ho (Region.noSelect_spec hs) ?_ (fun h=>by subst h;simp at hne) fuel listed a w (Region.free_spec ho hf) (by simpa using hr) (.inl ⟨by simp [Region.wanted],fun w hw=>?_⟩) (k _ (ha.put v hd))
  · rintro c a w ⟨_,E,_,h,_⟩;cases h
  · have:=hx w hw;unfold X at this;rw [execOp_bare,ha.eval];exact this
theorem LAD.take1 {fuel:Nat} {listed:Array Bool} {i d:Nat} {op:Op} {t:TypeId} {p:String} {af:Array Edge} {v:Value}
    (ho:ops[i]? = some ⟨some d,op,t,p,af,none⟩) (hs:Region.noSelect ops=true) (hf:Region.free .any ops listed i=true) (hr:(Region.ready .any ops listed).contains i=true) (hne:Nat.beq st i=false)
    (hst:(ops[st]?).map (fun o=>o.after.any fun e=>Region.binds .any e && Nat.beq e.on i)=some true) (hl:listed.getD st true=false)
    (hx:∀ w,C1 w→X P op t E w v w) (hd:Nat.blt d n=true) (k:LAD P n ops C0 C1 st K fuel (listed.setIfInBounds i true) D (upd E d v) w):LAD P n ops C0 C1 st K (fuel+1) listed D E w:=by
  intro a ha;cases hos:ops[st]? with
  | none=>rw [hos] at hst;cases hst
  | some ost=>
    rw [hos] at hst;simp only [Option.map_some,Option.some.injEq] at hst;obtain ⟨e,he,hb⟩:=Array.any_eq_true'.1 hst;simp only [Bool.and_eq_true] at hb;refine wpAnyD.take1 ho (Region.noSelect_spec hs) ?_ hos ⟨e,he,hb.1,Nat.eq_of_beq_eq_true hb.2⟩ (fun h=>by subst h;simp at hne) fuel listed a w (fun h=>by rw [unlisted hl] at h;cases h) (Region.free_spec ho hf) (by simpa using hr)
      (.inl ⟨by simp [Region.wanted],fun w hw=>?_⟩) (k _ (ha.put v hd))
    · rintro c a w ⟨_,E,_,h,_⟩;cases h
    · have:=hx w hw;unfold X at this;rw [execOp_bare,ha.eval];exact this
theorem LAD.done {listed:Array Bool} (hr:Region.ready .any ops listed=[]) (hl:listed.getD st false=true) (hC:C0 w) (h:K D E w):LAD P n ops C0 C1 st K 0 listed D E w:=
  fun _ ha=>⟨hC,fun h0=>(by rw [hl] at h0;cases h0),hr,lift_mk (by simp) ha ⟨rfl,h⟩⟩
def LADs (P:Program) (n:Nat) (ops:Array Oper) (C0 C1:World→Prop) (st:Nat) (K:List Deferred→Env→World→Prop) (fuel:Nat) (listed:Array Bool) (D:List Deferred) (E:Env) (w:World):List Nat→Prop
  | []=>True
  | i :: r=>(∃ o,ops[i]? = some o∧L P n ops (thn (LAD P n ops C0 C1 st K fuel (listed.setIfInBounds i true)) (nrm K)) [o] D E w)∧LADs P n ops C0 C1 st K fuel listed D E w r
theorem LAD.step {fuel:Nat} {listed:Array Bool} {rs:List Nat} (hC0:C0 w) (hC1:listed.getD st false=false→C1 w) (hr:Region.ready .any ops listed=rs) (hne:rs≠[])
    (h:LADs P n ops C0 C1 st K fuel listed D E w rs):LAD P n ops C0 C1 st K (fuel+1) listed D E w:=by
  intro a ha;refine ⟨hC0,hC1,fun h0=>absurd (hr.symm.trans h0) hne,fun j hj=>?_⟩;rw [hr] at hj;have key:∀ rs:List Nat,LADs P n ops C0 C1 st K fuel listed D E w rs→j∈rs→∃ o,ops[j]? = some o∧L P n ops (thn (LAD P n ops C0 C1 st K fuel (listed.setIfInBounds j true)) (nrm K)) [o] D E w:=by
    intro rs;induction rs with
    | nil=>intro _ hi;cases hi
    | cons k r ih=>
      intro hL hi;rcases List.mem_cons.1 hi with rfl | hi
      · exact hL.1
      · exact ih hL.2 hi
  obtain ⟨o,ho,hLo⟩:=key rs h hj;have h1:=hLo a ha;have hl:∀ e a w,lift n (thn (LAD P n ops C0 C1 st K fuel (listed.setIfInBounds j true)) (nrm K)) e a w→Exit.then (wpAnyD P ops C0 C1 st (lift n (nrm K)) fuel (listed.setIfInBounds j true)) (lift n (nrm K)) e a w:=by
    intro e a w ⟨h1,E',h2,h3⟩;cases e <;> simp only [thn,Exit.then] at h3 ⊢;case normal=>exact h3 a h2
    case outgrown=>exact absurd rfl h1
    all_goals exact ⟨by simp,E',h2,h3⟩
  unfold wpOp;rw [ho];simp only;unfold wpList at h1;split
  · rename_i hw
    rw [if_pos hw] at h1;rcases h1 with h1 | ⟨_,a',w',h1⟩
    · refine .inl ?_;unfold Oper.wp at h1 ⊢;generalize (execOp a.eval o).run P w=res at h1 ⊢;cases res with
      | ok x w'=>
        cases x <;> simp only [Oper.upon,wpList] at h1 ⊢ <;> try exact hl _ _ _ h1
        · refine h1.mono fun e w'' h=>?_
          cases e with
          | returned v=>exact hl _ _ _ h
          | panicked c=>exact hl _ _ _ h
          | outgrown=>obtain ⟨a',w',h⟩:=h;exact absurd rfl h.1
        · exact h1.mono fun v w'' h=>hl _ _ _ h
      | halt x w'=>cases x <;> simp only [Oper.upon] at h1 ⊢ <;> try exact hl _ _ _ h1
    · exact absurd rfl h1.1
  · rename_i hw;rw [if_neg hw] at h1;exact hl _ _ _ h1
theorem LAD.step' {fuel:Nat} {listed:Array Bool} {rs:List Nat} (hC0:C0 w) (hl:listed.getD st false=true) (hr:Region.ready .any ops listed=rs) (hne:rs≠[])
    (h:LADs P n ops C0 C1 st K fuel listed D E w rs):LAD P n ops C0 C1 st K (fuel+1) listed D E w:=LAD.step hC0 (fun h0=>by rw [hl] at h0;cases h0) hr hne h
end
theorem Gr.keepR {R:Nat→Prop} {a b:World} (h:Gr R a b) {p:Addr} {v:Value} (hn:¬ R p.block) (hv:a.cell? p=some v):b.cell? p=some v:=h.cell hv hn
theorem Gr.into {R:Nat→Prop} {a b c:World} {k:Nat} (h:Gr R a b) (g:Gr (· = k) b c) (hk:R k):Gr R a c:=
  h.trans (g.mono fun j _ e=>by have e:j=k:=e;rw [e];exact hk)
theorem Gr.intoR {R S:Nat→Prop} {a b c:World} (h:Gr R a b) (g:Gr S b c) (hk:∀ k,S k→R k):Gr R a c:=h.trans (g.mono fun j _ e=>hk j e)
end Go.Gx
namespace Go.Gx
open Go.Proofs
def B8 (b:UInt8):Value:=.int .u8 (b.toNat:Int)
theorem b8_lt (b:UInt8):b.toNat≤255:=by have:=b.toNat_lt;omega
theorem B8_of {n:Int} (h:0≤n∧n≤255):Value.int .u8 n=B8 (UInt8.ofNat n.toNat):=by
  unfold B8;rw [UInt8.toNat_ofNat'];congr 1;have:n.toNat % 2 ^ 8=n.toNat:=Nat.mod_eq_of_lt om_;rw [this];omega
theorem B8_one (l:List UInt8):∀ v∈l.map B8,v.oneCell'=true:=fun v hv=>by
  obtain ⟨b,-,rfl⟩:=List.mem_map.1 hv;rfl
def lowB (n:Int):UInt8:=UInt8.ofNat (n % 256).toNat
theorem wrap_u8 (n:Int):Value.int .u8 (IntKind.u8.wrap n)=B8 (lowB n):=by
  have h:IntKind.u8.wrap n=n % 256:=by rw [IntKind.wrap_u8]
  rw [h,B8_of om_];rfl
section
variable {P:Program} {E:Env} {w:World}
theorem x_bor {x y:Operand} {t u z:TypeId} {k:IntKind} {a b:Int} (hx:ev E x=.int k a) (hy:ev E y=.int k b):X P (.binOp .or u x y z) t E w (.int k (bits .or k a b)) w:=by
  unfold X;simp [execOp,hx,hy,go_sem]
theorem x_rem {x y:Operand} {t u z:TypeId} {k:IntKind} {a b c:Int} (hx:ev E x=.int k a) (hy:ev E y=.int k b) (ha:0≤a) (hb:b≠0) (hc:a % b=c):X P (.binOp .rem u x y z) t E w (.int k c) w:=by
  have h:a.tmod b=c:=by rw [Int.tmod_eq_emod_of_nonneg ha,hc]
  unfold X;simp [execOp,hx,hy,go_sem,Op.intDiv,hb,h]
theorem x_convB {x:Operand} {t s d:TypeId} {k:IntKind} {a:Int} (hs:(P.underlying s).isSome=true) (hd:P.underlying d=some (.int .u8)) (hx:ev E x=.int k a):X P (.convert s d x) t E w (B8 (lowB a)) w:=by
  rw [← wrap_u8];exact x_conv hs hd hx rfl
theorem x_slAB {x y y':Operand} {t s:TypeId} {a:Str} {k k':IntKind} {i i':Int} {j j':Nat} (hu:P.underlying s=some .string) (hx:ev E x=S a) (hy:ev E y=.int k i) (hy':ev E y'=.int k' i') (hi:i=(j:Nat)) (hi':i'=(j':Nat)) (hj:j≤j') (hj':j'≤a.length):
    X P (.slice s x (some y) (some y') none) t E w (S ((a.drop j).take (j' - j))) w:=by
  unfold X;subst hi;subst hi';have hs:j'≤(⟨a.toArray⟩:ByteArray).size:=hj';have he:(⟨a.toArray⟩:ByteArray).extract j j'=⟨((a.drop j).take (j' - j)).toArray⟩:=by
    apply ByteArray.ext;simp [ByteArray.data_extract]
  simp [execOp,hx,hy,hy',S,Instr.sliceAt,Instr.slice,Instr.sliceBounds,Instr.sliceBound,asIntOf,run_underlying hu,hs,hj,he]
theorem x_slB {x y:Operand} {t s:TypeId} {a:Str} {k:IntKind} {i:Int} {j:Nat} (hu:P.underlying s=some .string) (hx:ev E x=S a) (hy:ev E y=.int k i) (hi:i=(j:Nat)) (hj:j≤a.length):
    X P (.slice s x (some y) none none) t E w (S (a.drop j)) w:=by
  unfold X;subst hi;have hs:j≤(⟨a.toArray⟩:ByteArray).size:=hj;have he:(⟨a.toArray⟩:ByteArray).extract j (⟨a.toArray⟩:ByteArray).size=⟨(a.drop j).toArray⟩:=by
    apply ByteArray.ext;simp [ByteArray.data_extract,ByteArray.size,List.take_of_length_le]
  simp [execOp,hx,hy,S,Instr.sliceAt,Instr.slice,Instr.sliceBounds,Instr.sliceBound,asIntOf,run_underlying hu,hs,he]
theorem x_b2s {x:Operand} {t s d e:TypeId} {bl o c:Nat} {l:List UInt8} {n:Nat} (hs:P.underlying s=some (.slice e)) (he:P.underlying e=some (.int .u8)) (hd:P.underlying d=some .string) (hx:ev E x=.slice (some ⟨bl,o,none⟩) n c) (hn:n=l.length)
    (hc:∀ j,j<l.length→w.cell? ⟨bl,o+j,none⟩=(l.map B8)[j]?):X P (.convert s d x) t E w (S l) w:=by
  unfold X;subst hn;have h:=run_convert_bytes_back (P:=P) w s d e ⟨bl,o,none⟩ c l hs he hd (fun j hj=>by
    rw [addp,hc j hj,List.getElem?_map,List.getElem?_eq_getElem hj];rfl)
  simp [execOp,hx,h,S]
end
def BoxM (w:World) (b:Nat) (t:TypeId) (cs:List Value):Prop:=∃ n,w.heap[b]? = some (.cells cs.toArray t (n,n+1))∧cs.length≤n
section
variable {w w':World} {b:Nat} {t:TypeId} {cs:List Value}
theorem BoxM.lt (h:BoxM w b t cs):b<w.heap.size:=by
  obtain ⟨n,h,-⟩:=h;exact (Array.getElem?_eq_some_iff.1 h).1
theorem BoxM.carryR {R:Nat→Prop} (h:BoxM w b t cs) (g:Gr R w w') (hn:¬ R b):BoxM w' b t cs:=by
  obtain ⟨n,h1,h2⟩:=id h;exact ⟨n,by rw [g.block b h.lt hn];exact h1,h2⟩
theorem BoxM.carry (h:BoxM w b t cs) (g:Bel w w'):BoxM w' b t cs:=h.carryR g (fun f=>f)
theorem BoxM.cell (h:BoxM w b t cs) {i:Nat} {v:Value} (hv:cs[i]? = some v):w.cell? ⟨b,i,none⟩=some v:=by
  obtain ⟨n,h,-⟩:=h;simp [World.cell?,h,hv]
theorem BoxM.cell0 (h:BoxM w b t cs) {i:Nat} {v:Value} (hv:cs[i]? = some v):w.cell? ⟨b,0+i,none⟩=some v:=by rw [Nat.zero_add];exact h.cell hv
theorem BoxM.free (h:BoxM w b t cs) {i:Nat} (hi:i<cs.length):w.frozen? ⟨b,i,none⟩=false:=by
  obtain ⟨n,h,h2⟩:=h;simp only [World.frozen?,h];simp;omega
theorem BoxM.set (h:BoxM w b t cs) (i:Nat) (v:Value):BoxM (w.setCell ⟨b,i,none⟩ v) b t (cs.set i v):=by
  obtain ⟨n,h,h2⟩:=h;refine ⟨n,?_,by rw [List.length_set];exact h2⟩;simp [World.setCell,Array.getElem?_modify,h]
end
section
variable {P:Program} {n:Nat} {Q:Post} {D:List Deferred} {E:Env} {w:World}
theorem L.mkkc {ops:Array Oper} {r:List Oper} {d:Nat} {x y:Operand} {s e t:TypeId} {p:String} {af:Array Edge} {z:Value} (k c:Nat) (hu:P.underlying s=some (.slice e)) (he:elT P e 1=true) (hz:(P.info? e).bind (·.zero)=some z) (hzc:z.cells=#[z])
    (hx:ev E x=.int .i64 (k:Nat)) (hy:ev E y=.int .i64 (c:Nat)) (hk:k≤c) (hc:c≤400000000000) (hd:Nat.blt d n=true)
    (kk:∀ w1,Box w1 w.heap.size e (List.replicate c z)→Own w1 w.heap.size e 1 (.slice (some ⟨w.heap.size,0,none⟩) k c) k (List.replicate k z)→Bel w w1→w1.heap.size=w.heap.size+1→L P n ops Q r D (upd E d (.slice (some ⟨w.heap.size,0,none⟩) k c)) w1):
    L P n ops Q (⟨some d,.makeSlice s x y,t,p,af,none⟩ :: r) D E w:=by
  obtain ⟨inf,z',hinf,hz',hs,hzs,hpos,hby⟩:=elT_spec he;have hzz:z'=z:=by rw [hinf] at hz;simp only [Option.bind_some] at hz;rw [hz'] at hz;exact Option.some.inj hz
  subst hzz;have hrun:=run_make (P:=P) w s e inf z' hu hinf hz' .i64 .i64 (k:Nat) (c:Nat) om_ om_ (by have:(inf.bytes:Int) * (c:Int)≤200 * (c:Int):=Int.mul_le_mul_of_nonneg_right om_ om_;omega) om_;have hmade:madeCells z'.cells (((c:Nat):Int).toNat * inf.size)=(List.replicate c z').toArray:=by
    rw [hs,hzc];simp [madeCells];apply Array.ext';simp;apply List.ext_getElem
    · simp
    · intro i h1 h2;simp [Nat.mod_one]
  rw [hmade] at hrun;have hb:=box_alloc w e (List.replicate c z');refine L.val (v:=.slice (some ⟨w.heap.size,0,none⟩) k c) (w':=w.alloc (.cells (List.replicate c z').toArray e)) ?_ hd (kk _ hb ⟨by simp,.inr ⟨w.heap.size,c,_,rfl,Nat.le_refl _,hb,hk,by simp only [maxLen];omega,by simp,?_⟩⟩ (bel_alloc _ _) (by simp))
  · unfold X;simp only [execOp,Sem.run_bind,hx,hy,hrun];simp [Result.andThen]
  · simp [List.take_replicate,Nat.min_eq_left hk]
end
end Go.Gx
namespace Go.Gx
open Go.ChangeShapes Go.WideShapes Go.Deep Go.RowKit
section
variable {H:Type} {enc:TypeId × Value→H} {P:Program} {w:World} {base:Nat} {spare:Nat→Bool} {held:Bool}
theorem str_argT {tT:TypeId} (ht:P.underlying tT=some .string) {W:World} {base:Nat} {v:Value} {d:DataW H} {p:List MemPlace}
    (hv:Value.okWide P W .any base tT v) (h:DataW.Trod enc P W 0 (fun _=>true) true tT v d p):∃ s:Str,v=S s∧s.length≤9223372036854775807:=by
  obtain ⟨fuel,h⟩:=h;have hcells:v.cells.toList=[v]:=by
    unfold Value.okWide at hv;rw [ht] at hv;cases v <;> simp_all [Value.cells,Cell.okWide,Cell.ok]
  rw [hcells] at h;obtain ⟨s0,e0,-,l0⟩:=DataW.trod_string ht h;simp at e0;exact ⟨s0.data.toList,by rw [e0];simp [S],max_le l0⟩
end
end Go.Gx
namespace Go.Proofs
open Go.Shelf
def Tryz.lays169_ren:Go.Shelf.Ren:=⟨fun | 169=>28 | n=>n,fun | 70=>51 | 9=>9 | 0=>0 | 72=>53 | 37=>47 | 127=>83 | 3=>3 | 5=>5 | n=>n,fun | n=>n⟩
theorem Tryz.lays169:Go.Proofs.Lays.n169 Tryz.prog Tryz.lays169_ren:={
  mixed:=by kernel_rfl
  f169:=Tryz.func28.trans (congrArg some (by kernel_rfl))
  t0:=Tryz.underlying0
  a0:=Tryz.isAgg0
  z0:=Tryz.sizeOf0
  v0:=Tryz.zeroValue0
  t3:=Tryz.underlying3
  a3:=Tryz.isAgg3
  z3:=Tryz.sizeOf3
  v3:=Tryz.zeroValue3
  t9:=Tryz.underlying9
  a9:=Tryz.isAgg9
  z9:=Tryz.sizeOf9
  v9:=Tryz.zeroValue9
  t37:=Tryz.underlying47
  a37:=Tryz.isAgg47
  z37:=Tryz.sizeOf47
  v37:=Tryz.zeroValue47
  t70:=Tryz.underlying51
  a70:=Tryz.isAgg51
  z70:=Tryz.sizeOf51
  v70:=Tryz.zeroValue51
  t72:=Tryz.underlying53
  a72:=Tryz.isAgg53
  z72:=Tryz.sizeOf53
  v72:=Tryz.zeroValue53
  t127:=Tryz.underlying83
  a127:=Tryz.isAgg83
  z127:=Tryz.sizeOf83
  v127:=Tryz.zeroValue83 }
theorem Tryz.Builder_Extra_169:Builder.Extra Tryz.prog Tryz.lays169_ren:={
  sizeBuilder:=by kernel_rfl
  liesBuilder:=by kernel_rfl
  t5:=Tryz.underlying5
  a5:=Tryz.isAgg5
  z5:=Tryz.sizeOf5
  v5:=Tryz.zeroValue5
  infoByte:=by kernel_rfl
  cellsByte:=by kernel_rfl
  sizeByte:=by kernel_rfl
  neB5:=by decide }
open Go.RowKit in
theorem Tryz.Builder_String_any (B b:Nat) (l:List UInt8) (w:World) (h:Lib.IsBuilder 53 5 B b (Lib.byteCells l) w) (hBw:B≤w.heap.size):
    Calls Tryz.prog 28 #[.pointer (some ⟨b,0,none⟩)] w fun e w'=>e=.returned (.string ⟨l.toArray⟩)∧Below B w w':=Any.Builder_String_any Tryz.lays169 Tryz.Builder_Extra_169 B b l w h hBw
def Tryz.lays129_ren:Go.Shelf.Ren:=⟨fun | 129=>78 | n=>n,fun | 53=>59 | 3=>3 | 4=>4 | 46=>81 | 5=>5 | 9=>9 | n=>n,fun | n=>n⟩
theorem Tryz.lays129:Go.Proofs.Lays.n129 Tryz.prog Tryz.lays129_ren:={
  mixed:=by kernel_rfl
  f129:=Tryz.func78.trans (congrArg some (by kernel_rfl))
  t3:=Tryz.underlying3
  a3:=Tryz.isAgg3
  z3:=Tryz.sizeOf3
  v3:=Tryz.zeroValue3
  t4:=Tryz.underlying4
  a4:=Tryz.isAgg4
  z4:=Tryz.sizeOf4
  v4:=Tryz.zeroValue4
  t5:=Tryz.underlying5
  a5:=Tryz.isAgg5
  z5:=Tryz.sizeOf5
  v5:=Tryz.zeroValue5
  t9:=Tryz.underlying9
  a9:=Tryz.isAgg9
  z9:=Tryz.sizeOf9
  v9:=Tryz.zeroValue9
  t46:=Tryz.underlying81
  a46:=Tryz.isAgg81
  z46:=Tryz.sizeOf81
  v46:=Tryz.zeroValue81
  t53:=Tryz.underlying59
  a53:=Tryz.isAgg59
  z53:=Tryz.sizeOf59
  v53:=Tryz.zeroValue59 }
theorem Tryz.bits_Len64 (x:Int) (w:World) (h0:0≤x) (h1:x≤18446744073709551615):
    Calls Tryz.prog 78 #[.int .u64 x] w fun e w'=>e=.returned (.int .i64 (Lib.bitLen x.toNat))∧w'=w:=Any.bits_Len64 Tryz.lays129 x w h0 h1
end Go.Proofs
namespace Go.Gx
open Go.Proofs
theorem koct1_el5:elT Tryz.prog 5 1=true:=by kernel_rfl
theorem koct1_en48:Go.Proofs.Enters Tryz.prog 48:=Go.Proofs.enters_of Tryz.func48 kr_ rfl
theorem koct1_fo53_0:fieldOff Tryz.prog 53 0=some 0:=by kernel_rfl
theorem koct1_fo53_1:fieldOff Tryz.prog 53 1=some 1:=by kernel_rfl
theorem koct1_oc47:oneCellT Tryz.prog 47=true:=by kernel_rfl
theorem koct1_oc51:oneCellT Tryz.prog 51=true:=by kernel_rfl
theorem koct1_sz47:(Tryz.prog.info? 47).map (·.size)=some 1:=by kernel_rfl
theorem koct1_sz51:(Tryz.prog.info? 51).map (·.size)=some 1:=by kernel_rfl
theorem gr_below {n₀ : Nat} {a b:World} (h:RowKit.Below n₀ a b):Gr (fun k=>n₀ ≤ k) a b:=⟨h.os,h.tape,h.output,h.size,fun k _ hn=>h.block k om_⟩
def BuilderIs (w:World) (b:Nat) (l:Str):Prop:=
  ∃ p v,(p=.pointer none∨p=.pointer (some ⟨b,0,none⟩))∧Box w b 53 [p,v]∧Own w b 5 1 v l.length (l.map B8)∧v.ownBlock≠some b
theorem BuilderIs.lt {w:World} {b:Nat} {l:Str} (h:BuilderIs w b l):b<w.heap.size:=by obtain ⟨p,v,-,h,-⟩:=h;exact h.lt
theorem BuilderIs.carryR {R:Nat→Prop} {w w':World} {b:Nat} {l:Str} (h:BuilderIs w b l) (g:Gr R w w') (hR:∀ k,b≤k→¬ R k):BuilderIs w' b l:=by
  obtain ⟨p,v,h1,h2,h3,h4⟩:=h;exact ⟨p,v,h1,h2.carryR g (hR b (Nat.le_refl _)),Own.carryR h3 g (fun j hj=>hR j (Own.lt h3 hj).1),h4⟩
theorem BuilderIs.carry {w w':World} {b:Nat} {l:Str} (h:BuilderIs w b l) (g:Bel w w'):BuilderIs w' b l:=h.carryR g (fun _ _ f=>f)
theorem builder_new {w:World} {b:Nat} (h:Box w b 53 [.pointer none,.slice none 0 0]):BuilderIs w b []:=⟨_,_,.inl rfl,h,own_nil,by simp [Value.ownBlock]⟩
theorem bstr_ok (b:Nat) (l:Str) (w:World) (h:BuilderIs w b l):Ret Tryz.prog 28 #[.pointer (some ⟨b,0,none⟩)] w fun v w'=>v=S l∧Gr (fun k=>b≤k) w w':=by
  have hlt:=h.lt;obtain ⟨p,v,hp,hb,ho,hn⟩:=h;have hA:∀ q,p=q→Lib.BuilderAt 53 5 b b q (Lib.byteCells l) w:=fun q e=>⟨Nat.le_refl _,v,by rw [← e];exact hb,by rw [Lib.byteCells_length];exact ho,hn⟩
  have hI:Lib.IsBuilder 53 5 b b (Lib.byteCells l) w:=hp.imp (hA _) (hA _);exact Calls.mono (Tryz.Builder_String_any b b l w hI om_) fun e w' ⟨he,hw⟩=>⟨_,he,rfl,gr_below hw⟩
theorem sh_box {w:World} {b:Nat} {t:TypeId} {cs:List Value} (h:Box w b t cs):w.shape? b=some (t,cs.length):=by
  unfold Box at h;simp [World.shape?,h]
theorem x_toUns {x:Operand} {s d t e:TypeId} {ty:TypeId} {E:Env} {w:World} {a:Addr} {cells:Nat} (hs:(Tryz.prog).underlying s=some (.pointer t)) (hd:(Tryz.prog).underlying d=some .unsafePointer) (ht:((Tryz.prog).info? t).map (fun i=>decide (i.size≠0))=some true) (hx:ev E x=.pointer (some a)) (hsh:w.shape? a.block=some (e,cells)) (hoff:a.off<cells):X (Tryz.prog) (.convert s d x) ty E w (.pointer (some a)) w:=by
  cases hi:(Tryz.prog).info? t with
  | none=>simp [hi] at ht
  | some j=>
    have hj:j.size≠0:=by simpa [hi] using ht
    unfold X;simp [execOp,hx,Lib.run_to_unsafe (P:=Tryz.prog) w a hs hd hi hj hsh hoff]
theorem x_fromUns {x:Operand} {s d u e:TypeId} {ty:TypeId} {E:Env} {w:World} {a:Addr} {cells:Nat} (hs:(Tryz.prog).underlying s=some .unsafePointer) (hd:(Tryz.prog).underlying d=some (.pointer u)) (hu:((Tryz.prog).info? u).isSome=true) (hx:ev E x=.pointer (some a)) (hsh:w.shape? a.block=some (e,cells)) (hlies:liesAt (Tryz.prog) (Tryz.prog).depth e (cells / (Tryz.prog).cellsOf e) a.off u 1=true):X (Tryz.prog) (.convert s d x) ty E w (.pointer (some a)) w:=by
  obtain ⟨j,hj⟩:=Option.isSome_iff_exists.1 hu;unfold X;simp [execOp,hx,Lib.run_from_unsafe (P:=Tryz.prog) w a hs hd hj hsh hlies]
theorem x_nepS {x y:Operand} {t u z e:TypeId} {E:Env} {w:World} {a:Addr} (hu:(Tryz.prog).underlying u=some (.pointer e)) (he:((Tryz.prog).info? e).isSome=true) (hx:ev E x=.pointer (some a)) (hy:ev E y=.pointer (some a)):X (Tryz.prog) (.binOp .neq u x y z) t E w (.bool false) w:=by
  obtain ⟨j,hj⟩:=Option.isSome_iff_exists.1 he;have hg:∀ d:Nat,(Op.eqGuardIn (d+1) u (.pointer (some a)) (.pointer (some a))).run (Tryz.prog) w=.ok false w:=fun d=>by simp [Op.eqGuardIn,run_underlying hu]
  unfold X;simp [execOp,hx,hy,eqGuard,Lib.run_neq_ptr_same (P:=Tryz.prog) w a hu hj,hg]
theorem L.appS {P:Program} {n:Nat} {Q:Post} {D:List Deferred} {E:Env} {w:World} {ops:Array Oper} {r:List Oper} {d:Nat} {x y:Operand} {T U t e:TypeId} {p:String} {af:Array Edge} {base k:Nat} {v:Value} {xs:List Value} {l:Str}
    (hu:P.underlying T=some (.slice e)) (hU:P.underlying U=some .string) (he:elT P e 1=true) (hz:(P.info? e).bind (·.zero)=some (.int .u8 0)) (hby:(P.info? e).map (·.bytes)=some 1) (hx:ev E x=v) (hy:ev E y=S l) (hd:Nat.blt d n=true) (h:Own w base e 1 v k xs)
    (hk:k+l.length≤140737488355328) (hb:base≤w.heap.size)
    (kk:∀ v' w',Own w' base e 1 v' (k+l.length) (xs++l.map B8)→Gr (fun j=>some j=v.ownBlock) w w'→L P n ops Q r D (upd E d v') w'):
    L P n ops Q (⟨some d,.call ⟨.builtin .append,#[x,y],#[T,U]⟩,t,p,af,none⟩ :: r) D E w:=by
  obtain ⟨i,z,hi,hz',hs,-⟩:=elT_spec he;have hz2:i.zero=some (.int .u8 0):=by simpa [hi] using hz
  have hb2:i.bytes=1:=by simpa [hi] using hby
  obtain ⟨v',w',hr,h1,h2,-⟩:=Lib.run_append_own_string (P:=P) w base T U t e i hu hU hi hz2 hs hb2 v k xs h ⟨l.toArray⟩ (by show k+l.length≤_;simp only [maxLen];omega) hk hb;refine L.val (v:=v') (w':=w') ?_ hd (kk v' w' h1 ⟨h2.os,h2.tape,h2.output,h2.size,fun j hj hn=>h2.block j hj (fun e=>hn e)⟩);unfold X;simp only [S] at hy;simp [execOp,resolve,invoke,builtin,hx,hy,hr,Result.andThen]
theorem ccheck_ok (b:Nat) (l:Str) (w:World) (h:BuilderIs w b l):Ret Tryz.prog 48 #[.pointer (some ⟨b,0,none⟩)] w fun _ w'=>(∃ v,Box w' b 53 [.pointer (some ⟨b,0,none⟩),v]∧Own w' b 5 1 v l.length (l.map B8)∧v.ownBlock≠some b)∧Gr (fun k=>b≤k) w w':=by
  have hlt:=h.lt;obtain ⟨p,v,hp,hb,ho,hn⟩:=h;rcases hp with rfl | rfl
  · have hlt0:=hlt;refine ret_of_W Tryz.func48 rfl (Nat.le_of_ble_eq_true rfl) (res0 rfl) ?_;refine W.seq (W.region (L.val (x_mv (v:=.pointer _) rfl) rfl ?_));refine L.val (x_nil rfl) rfl ?_;refine L.val (x_fa koct1_fo53_0 rfl) rfl ?_;refine L.val (x_ld (v:=.pointer _) koct1_oc51 rfl (hb.cell0 rfl)) rfl ?_;refine L.val (x_eqp0 Tryz.underlying51 rfl rfl) rfl ?_;refine L.nil (thn_n (W.cond (b:=_) rfl (fun g6=>?_) (fun g6=>?_)))
    ·have h6:=g6;refine W.region (L.val (x_mv (v:=.pointer _) rfl) rfl ?_);refine L.val (x_mv (v:=.pointer _) rfl) rfl ?_;refine L.val (x_toUns Tryz.underlying51 Tryz.underlying104 kr_ rfl (sh_box hb) (by simp)) rfl ?_;refine L.val (x_extn (e:=Extern.AbiNoEscape.same) Tryz.func77 kr_ kr_ kr_ kr_ rfl (Lib.run_noEscape _ _)) rfl ?_;refine L.val (x_fromUns Tryz.underlying104 Tryz.underlying51 kr_ rfl (sh_box hb) kr_) rfl ?_;refine L.val (x_nil rfl) rfl ?_;refine L.val (x_fa koct1_fo53_0 rfl) rfl ?_;refine L.set (v:=.pointer _) koct1_sz51 rfl rfl rfl hb rfl (fun wl13 hb hw hzl13=>?_);have ho:=Own.carryR ho hw (fun j hj e=>by have e:j=b:=e;rw [e] at hj;exact hn hj.symm);refine L.nil (fin_mk (.inl rfl) ?_);exact ⟨⟨v,hb,ho,hn⟩,hw.mono (fun k _ e=>by have e:k=b:=e;omega)⟩
    ·have h6:=g6;cases g6
  · have hlt0:=hlt;refine ret_of_W Tryz.func48 rfl (Nat.le_of_ble_eq_true rfl) (res0 rfl) ?_;refine W.seq (W.region (L.val (x_mv (v:=.pointer _) rfl) rfl ?_));refine L.val (x_nil rfl) rfl ?_;refine L.val (x_fa koct1_fo53_0 rfl) rfl ?_;refine L.val (x_ld (v:=.pointer _) koct1_oc51 rfl (hb.cell0 rfl)) rfl ?_;refine L.val (x_eqp0 Tryz.underlying51 rfl rfl) rfl ?_;refine L.nil (thn_n (W.cond (b:=_) rfl (fun g6=>?_) (fun g6=>?_)))
    ·have h6:=g6;cases g6
    ·have h6:=g6;refine W.seq (W.region (L.val (x_mv (v:=.pointer _) rfl) rfl ?_));refine L.val (x_nil rfl) rfl ?_;refine L.val (x_fa koct1_fo53_0 rfl) rfl ?_;refine L.val (x_ld (v:=.pointer _) koct1_oc51 rfl (hb.cell0 rfl)) rfl ?_;refine L.val (x_mv (v:=.pointer _) rfl) rfl ?_;refine L.val (x_nepS Tryz.underlying51 kr_ rfl rfl) rfl ?_;refine L.nil (thn_n (W.cond (b:=_) rfl (fun g19=>?_) (fun g19=>?_)))
     ·have h19:=g19;cases g19
     ·have h19:=g19;refine W.skip (fin_mk (.inl rfl) ?_);exact ⟨⟨v,hb,ho,hn⟩,Gr.refl _ _⟩
theorem wstr_ok (b:Nat) (l s:Str) (w:World) (h:BuilderIs w b l) (hl:l.length+s.length≤100000000):Ret Tryz.prog 24 #[.pointer (some ⟨b,0,none⟩),S s] w fun _ w'=>BuilderIs w' b (l++s)∧Gr (fun k=>b≤k) w w':=by
  refine ret_of_W Tryz.func24 rfl (Nat.le_of_ble_eq_true rfl) (res2 rfl) ?_;refine W.seq (W.region (L.val (x_as (v:=.int _ _) rfl) rfl ?_));refine L.val (x_as (v:=_) rfl) rfl ?_;refine L.nil (thn_n (W.seq (W.region (L.val (x_mv (v:=.pointer _) rfl) rfl ?_))));refine L.ret (x_call koct1_en48 rfl) rfl (ccheck_ok b l _ h) ?_;rintro _ w7 ⟨⟨v7,hb,ho,hn⟩,hG⟩;refine L.nil (thn_n (W.seq (W.region ?_)));have hlt:=hb.lt;obtain ⟨a7,c7,e7,-⟩:=own_shape ho;subst e7;refine L.val (x_mv (v:=.pointer _) rfl) rfl ?_;refine L.val (x_mv (v:=.pointer _) rfl) rfl ?_;refine L.val (x_nil rfl) rfl ?_;refine L.val (x_fa koct1_fo53_1 rfl) rfl ?_;refine L.val (x_ld (v:=.slice _ _ _) koct1_oc47 rfl (hb.cell0 rfl)) rfl ?_;refine L.val (x_mv (v:=S _) rfl) rfl ?_;refine L.appS Tryz.underlying47 Tryz.underlying9 koct1_el5 kr_ kr_ rfl rfl rfl ho om_ om_ (fun v14 w14 hO14 hg=>?_);have hb:=hb.carryR hg (fun e=>hn e.symm);have hn2:=own_box_ne hO14 hb (by decide);obtain ⟨a14,c14,e14,-⟩:=own_shape hO14;subst e14;refine L.val (x_nil rfl) rfl ?_;refine L.val (x_fa koct1_fo53_1 rfl) rfl ?_;refine L.set (v:=.slice _ _ _) koct1_sz47 rfl rfl rfl hb rfl (fun wl14 hb hw hzl14=>?_);have hO:=Own.carryR hO14 hw (fun j hj e=>by have e:j=b:=e;rw [e] at hj;exact hn2 hj);refine L.nil (thn_n (W.seq (W.region (L.val (x_mv (v:=S _) rfl) rfl ?_))));refine L.val (x_len_str Tryz.underlying9 rfl) rfl ?_;refine L.val (x_as (v:=.int _ _) rfl) rfl ?_;refine L.val (x_as (v:=_) rfl) rfl ?_;refine L.nil (thn_n (W.ret (fin_mk (.inr rfl) ?_)));refine ⟨⟨_,_,.inr rfl,hb,?_,fun e=>hn2 e.symm⟩,(hG.trans (hg.mono fun k _ e=>(Own.lt ho e).1)).trans (hw.mono fun k _ e=>by have e:k=b:=e;omega)⟩;simpa using hO
end Go.Gx
namespace Go.Gx
open Go.Proofs
theorem koct2_el5:elT Tryz.prog 5 1=true:=by kernel_rfl
theorem koct2_en25:Go.Proofs.Enters Tryz.prog 25:=Go.Proofs.enters_of Tryz.func25 kr_ rfl
theorem koct2_en49:Go.Proofs.Enters Tryz.prog 49:=Go.Proofs.enters_of Tryz.func49 kr_ rfl
theorem koct2_en78:Go.Proofs.Enters Tryz.prog 78:=Go.Proofs.enters_of Tryz.func78 kr_ rfl
theorem koct2_sz5:(Tryz.prog.info? 5).map (·.size)=some 1:=by kernel_rfl
def widN (n:Nat):Nat:=(Lib.bitLen n+7) / 8
def beN (k n:Nat):Str:=(List.range k).map fun i=>lowB ((n:Int) / 2 ^ (8 * (k - 1 - i)))
def numB (n:Nat):Str:=if n<248 then [lowB (n:Nat)] else lowB (247+(widN n:Nat)) :: beN (widN n) n
def textB (s:Str):Str:=numB s.length++s
theorem beN_len (k n:Nat):(beN k n).length=k:=by simp [beN]
theorem beN_take {k n j:Nat} (hj:j<k):(beN k n).take (j+1)=(beN k n).take j++[lowB ((n:Int) / 2 ^ (8 * (k - 1 - j)))]:=by
  rw [List.take_add_one,List.getElem?_eq_getElem (by rw [beN_len];exact hj)];simp [beN]
theorem width_ok (n:Nat) (hn:n<18446744073709551616) (w:World):Ret Tryz.prog 49 #[.int .u64 (n:Nat)] w fun v w'=>v=.int .i64 (widN n:Nat)∧w'=w:=by
  have hL:Ret Tryz.prog 78 #[.int .u64 (n:Nat)] w fun v w'=>v=.int .i64 (Lib.bitLen n:Nat)∧w'=w:=
    Calls.mono (Tryz.bits_Len64 (n:Nat) w om_ om_) fun e w' ⟨he,hw⟩=>⟨_,he,by simp,hw⟩
  have hb:=Lib.bitLen_le n 64 om_ hn;refine ret_of_W Tryz.func49 rfl (Nat.le_of_ble_eq_true rfl) (res1 rfl) ?_;refine W.seq (W.region (L.val (x_as (v:=.int _ _) rfl) rfl ?_));refine L.nil (thn_n (W.seq (W.region (L.val (x_mv (v:=.int _ _) rfl) rfl ?_))));refine L.ret (x_call koct2_en78 rfl) rfl (hL) ?_;rintro _ w4 ⟨rfl,rfl⟩;refine L.val (x_add rfl rfl (wr64 om_)) rfl ?_;refine L.val (x_quo rfl rfl (by decide) (wq64 om_ (by decide))) rfl ?_;refine L.val (x_as (v:=.int _ _) rfl) rfl ?_;refine L.nil (thn_n (W.ret (fin_mk (.inr rfl) ?_)));refine ⟨?_,rfl⟩;unfold widN;show Value.int .i64 _=_;congr 1
theorem widN_le {n:Nat} (hn:n<18446744073709551616):widN n≤8:=by
  have hb:=Lib.bitLen_le n 64 om_ hn;unfold widN;omega
theorem own_of_boxT {w:World} {b k cap:Nat} {e:TypeId} {cs xs:List Value} (h:Box w b e cs) (hl:cs.length=cap) (hx:cs.take k=xs) (hk:k≤cap) (hm:cap≤9223372036854775807):Own w b e 1 (.slice (some ⟨b,0,none⟩) k cap) k xs:=by
  refine ⟨?_,.inr ⟨b,cap,cs.toArray,rfl,Nat.le_refl _,h,hk,by simp only [maxLen];omega,by simpa using hl,by simpa using hx⟩⟩;rw [← hx,List.length_take];omega
theorem own_cells {w:World} {base b k c:Nat} {e:TypeId} {l:Str} (h:Own w base e 1 (.slice (some ⟨b,0,none⟩) k c) k (l.map B8)):∀ j,j<l.length→w.cell? ⟨b,0+j,none⟩=(l.map B8)[j]? := fun j hj=>by
  rcases Own.open h with ⟨e1,-⟩ | ⟨b',cap,tl,e1,-,-,-,hb⟩
  · cases e1
  · cases e1;have hj':j<(l.map B8).length:=by simpa using hj
    rw [List.getElem?_eq_getElem hj'];exact hb.cell0 (by rw [List.getElem?_append_left hj',List.getElem?_eq_getElem hj'])
theorem number_ok (n:Nat) (hn:n<18446744073709551616) (w:World):Ret Tryz.prog 25 #[.int .u64 (n:Nat)] w fun v w'=>v=S (numB n)∧Bel w w':=by
  have hw8:=widN_le hn;refine ret_of_W Tryz.func25 rfl (Nat.le_of_ble_eq_true rfl) (res1 rfl) ?_;have hB:=Gr.refl (fun _=>False) w;refine W.seq (W.region (L.val (x_as (v:=S _) rfl) rfl ?_));refine L.nil (thn_n (W.seq (W.seq (W.region (L.val (x_mv (v:=.int _ _) rfl) rfl ?_)))));refine L.val (x_lss rfl rfl) rfl ?_;refine L.nil (thn_n (W.cond (b:=_) rfl (fun g7=>?_) (fun g7=>?_)))
  ·have h7:=of_decide_eq_true g7;have hlt:n<248:=by omega
   refine W.seq (W.region (L.val (x_mv (v:=.int _ _) rfl) rfl ?_));refine L.val (x_convB (by rw [Tryz.underlying59];rfl) Tryz.underlying5 rfl) rfl ?_;refine L.bs (sz:=1) (cells:=[B8 (lowB (n:Nat))]) Tryz.underlying47 koct2_el5 rfl rfl rfl rfl (fun w10 bx10 hw hz10=>?_);have hB:=hB.carry hw;refine L.val (x_b2s (l:=[lowB (n:Nat)]) Tryz.underlying47 Tryz.underlying5 Tryz.underlying9 rfl rfl (fun j hj=>bx10.row rfl j hj)) rfl ?_;refine L.val (x_as (v:=S _) rfl) rfl ?_;refine L.nil (thn_n (W.ret (thn_r (fin_mk (.inr rfl) ?_))));unfold numB;rw [if_pos hlt];exact ⟨rfl,hB⟩
  ·have h7:=dlt_f g7;have hge:¬ n<248:=by omega
   refine W.skip (thn_n (W.seq (W.region (L.val (x_mv (v:=.int _ _) rfl) rfl ?_))));refine L.ret (x_call koct2_en49 rfl) rfl (width_ok n hn _) ?_;rintro _ w13 ⟨rfl,hq13⟩;rw [hq13];refine L.val (x_as (v:=.int _ _) rfl) rfl ?_;refine L.nil (thn_n (W.seq (W.region (L.mkkc (z:=.int .u8 0) 1 9 Tryz.underlying47 koct2_el5 kr_ rfl rfl rfl om_ om_ rfl (fun w14 bx14 _ hw hz14=>?_)))));have hB:=hB.carry hw;refine L.val (x_as (v:=.slice _ _ _) rfl) rfl ?_;refine L.nil (thn_n (W.seq (W.region (L.val (x_mv (v:=.slice _ _ _) rfl) rfl ?_))));refine L.val (x_mv (v:=.int _ _) rfl) rfl ?_;refine L.val (x_add rfl rfl (wr64 om_)) rfl ?_;refine L.val (x_convB (by rw [Tryz.underlying3];rfl) Tryz.underlying5 rfl) rfl ?_;refine L.val (x_ia1 (j:=0) Tryz.underlying47 koct2_sz5 rfl rfl rfl om_) rfl ?_;refine L.set (v:=B8 (lowB (247+(widN n:Nat)))) (i:=0+0) koct2_sz5 rfl rfl rfl bx14 rfl (fun wl19 bxN hw hzl19=>?_);have hsB:=hB.size;have hB:=hB.set hw om_;have hO0:=own_of_boxT (k:=1) (cap:=9) bxN rfl rfl om_ om_;refine L.nil (thn_n (W.seq (W.seq (W.region (L.val (x_mv (v:=.int _ _) rfl) rfl ?_)))));refine L.val (x_sub rfl rfl (wr64 om_)) rfl ?_;refine L.val (x_as (v:=.int _ _) rfl) rfl ?_;refine L.nil (thn_n (W.block (W.loop (fun m' E w'=>∃ (j:Nat) (v4:Value),m'=j∧E 0=.int .u64 (n:Nat)∧E 4=v4∧E 5=.int .i64 ((j:Nat) - 1)∧(j≤widN n)∧(Bel w w')∧(Own w' w.heap.size 5 1 v4 (1+(widN n - j)) ((lowB (247+(widN n:Nat)) :: (beN (widN n) n).take (widN n - j)).map B8))) (widN n) ?_ ?_)))
   ·exact ⟨widN n,_,by omega,vi_,vi_,vi_,ao_,ao_,(by rw [Nat.sub_self];exact hO0)⟩
   ·rintro _ E wL22 ⟨j,v4,em,e0,e4,e5,hj,hB,hO⟩;rw [upd_self e0,upd_self e4,upd_self e5];refine W.seq (W.seq (W.region (L.val (x_mv (v:=.int _ _) rfl) rfl ?_)));refine L.val (x_geq rfl rfl) rfl ?_;refine L.nil (thn_n (W.cond (b:=_) rfl (fun g23=>?_) (fun g23=>?_)))
    ·have h23:=of_decide_eq_true g23;have hj1:1≤j:=by omega
     obtain ⟨a4,c4,e4,-⟩:=own_shape hO;subst e4;have hsk:=hB.size;have hlt:=fun i (e:some i=_)=>(Own.lt hO (j:=i) e).1
     have eS:(8 * ((j:Int) - 1)).toNat=8 * (widN n - 1 - (widN n - j)):=by omega
     refine W.skip (thn_n (W.seq (W.block (W.region (L.val (x_mv (v:=.slice _ _ _) rfl) rfl ?_)))));refine L.val (x_mv (v:=.int _ _) rfl) rfl ?_;refine L.val (x_mv (v:=.int _ _) rfl) rfl ?_;refine L.val (x_mul rfl rfl (wr64 om_)) rfl ?_;refine L.val (x_conv (k':=.u64) (by rw [Tryz.underlying3];rfl) Tryz.underlying81 rfl (wru64 om_)) rfl ?_;refine L.val (x_shr rfl rfl om_ (by show _≤((64:Nat):Int);omega)) rfl ?_;refine L.val (x_convB (by rw [Tryz.underlying59];rfl) Tryz.underlying5 rfl) rfl ?_;refine L.bs (sz:=1) (cells:=[B8 (lowB ((n:Int) / 2 ^ (8 * ((j:Int) - 1)).toNat))]) Tryz.underlying47 koct2_el5 rfl rfl rfl rfl (fun w33 bx33 hw hz33=>?_);have hB:=hB.carry hw;have hO:=hO.carry hw;refine L.appendN (m:=1) Tryz.underlying47 koct2_el5 rfl rfl rfl hO rfl (holdsN_box bx33) (B8_one [_]) om_ (by have:=hB.size;omega) (fun v34 w34 hO34 hg hob34=>?_);have hB:=hB.step hg (fun i hi e=>by have:=hlt i e;omega);have hO2:Own w34 w.heap.size 5 1 v34 (1+(widN n - (j - 1))) ((lowB (247+(widN n:Nat)) :: (beN (widN n) n).take (widN n - (j - 1))).map B8):=by
       have e1:widN n - (j - 1)=widN n - j+1:=by omega
       rw [e1,beN_take om_,← eS];simpa [Nat.add_assoc] using hO34
     obtain ⟨a34,c34,e34,-⟩:=own_shape hO34;subst e34;refine L.val (x_as (v:=.slice _ _ _) rfl) rfl ?_;refine L.nil (blk_n (thn_n (W.region (L.val (x_mv (v:=.int _ _) rfl) rfl ?_))));refine L.val (x_sub rfl rfl (wr64 om_)) rfl ?_;refine L.val (x_as (v:=.int _ _) rfl) rfl ?_;refine L.nil (thn_n ⟨rfl,?_⟩);refine ⟨_,?_,j - 1,_,rfl,vi_,vi_,vi_,ao_,ao_,(by exact hO2)⟩;omega
    ·have h23:=dle_f g23;have hj0:j=0:=by omega
     subst hj0;rw [Nat.sub_zero,List.take_of_length_le (by rw [beN_len];exact Nat.le_refl _)] at hO;rw [Nat.add_comm 1 (widN n)] at hO;obtain ⟨b4,c4,e4⟩:=own_form hO;subst e4;refine W.exit (thn_x (thn_x (blk_hit ?_)));refine thn_n (W.seq (W.region (L.val (x_mv (v:=.slice _ _ _) rfl) rfl ?_)));refine L.val (x_b2s (l:=lowB (247+(widN n:Nat)) :: beN (widN n) n) Tryz.underlying47 Tryz.underlying5 Tryz.underlying9 rfl (by simp [beN_len]) (own_cells hO)) rfl ?_;refine L.val (x_as (v:=S _) rfl) rfl ?_;refine L.nil (thn_n (W.ret (fin_mk (.inr rfl) ?_)));unfold numB;rw [if_neg hge];exact ⟨rfl,hB⟩
theorem numB_len {n:Nat} (hn:n<18446744073709551616):(numB n).length≤9:=by
  unfold numB;have:=widN_le hn;split <;> simp [beN_len];omega
theorem text_ok (s:Str) (hs:s.length≤100000000) (w:World):Ret Tryz.prog 26 #[S s] w fun v w'=>v=S (textB s)∧Bel w w':=by
  have hl:=numB_len (n:=s.length) om_;refine ret_of_W Tryz.func26 rfl (Nat.le_of_ble_eq_true rfl) (res1 rfl) ?_;refine W.seq (W.region (L.val (x_as (v:=S _) rfl) rfl ?_));refine L.nil (thn_n (W.seq (W.region (L.val (x_mv (v:=S _) rfl) rfl ?_))));refine L.val (x_len_str Tryz.underlying9 rfl) rfl ?_;refine L.val (x_conv (k':=.u64) (by rw [Tryz.underlying3];rfl) Tryz.underlying59 rfl (wru64 om_)) rfl ?_;refine L.ret (x_call koct2_en25 rfl) rfl (number_ok s.length om_ _) ?_;rintro _ w6 ⟨rfl,hB⟩;refine L.val (x_mv (v:=S _) rfl) rfl ?_;refine L.val (x_cat rfl rfl (by first | omega | (simp only [List.length_append,List.length_cons,List.length_nil];omega))) rfl ?_;refine L.val (x_as (v:=S _) rfl) rfl ?_;refine L.nil (thn_n (W.ret (fin_mk (.inr rfl) ?_)));exact ⟨rfl,hB⟩
def stepC1 (r:Int):Int:=bits .xor .u32 (r / 2 ^ (1:Int).toNat) (bits .and .u32 2197175160 (IntKind.u32.wrap (0 - bits .and .u32 r 1)))
def stepC:Nat→Int→Int
  | 0,r=>r
  | k+1,r=>stepC1 (stepC k r)
def cplC (r:Int):Int:=bits .xor .u32 IntKind.u32.max r
def moreR (r:Int) (s:Str):Int:=s.foldl (fun r b=>stepC 8 (bits .xor .u32 r (b.toNat:Nat))) r
def moreC (sum:Int) (s:Str):Int:=cplC (moreR (cplC sum) s)
def crcS (s:Str):Int:=moreC 0 s
end Go.Gx
namespace Go.Gx
open Go.Proofs
def sumB (s:Str):Str:=[lowB (crcS s / 2 ^ (24:Int).toNat),lowB (crcS s / 2 ^ (16:Int).toNat),lowB (crcS s / 2 ^ (8:Int).toNat),lowB (crcS s)]
theorem anyW_take {α : Type} {l:List α} {p:α → Bool} {k:Nat} (h:k<l.length) (d:α):(l.take (k+1)).any p=((l.take k).any p || p (l.getD k d)):=by
  rw [List.take_add_one,List.getElem?_eq_getElem h,List.any_append,List.getD_eq_getElem?_getD,List.getElem?_eq_getElem h];simp
theorem anyW_of {α : Type} {l:List α} {p:α → Bool} {k:Nat} (h:(l.take k).any p=true):l.any p=true:=by
  rw [List.any_eq_true] at h ⊢;obtain ⟨x,hx,hp⟩:=h;exact ⟨x,List.mem_of_mem_take hx,hp⟩
end Go.Gx
