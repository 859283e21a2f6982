/- In a region that draws and stores: what reads alone is taken first, by what holds all the time, or up to the first store. Conditions: none. -/
import Derived.Laws.IdiomStrings
import Derived.Laws.IdiomCopy
import Derived.Lib.BufferWrite
import Derived.Laws.Bits64b
import Derived.Shelf.Strings.Repeat
import Derived.Shelf.Small.Bits
import Derived.Shelf.Strconv.Itoa0
import Derived.Test.YtdklfpoofgagmaaGreatProg
import Derived.Lib.Builder
import Derived.Lib.AppendStr
import Derived.Laws.Externs
import Derived.Test.YtdklfpoofgagmaaGreatQbMapS
import Derived.Test.YtdklfpoofgagmaaGreatQbRowG
namespace Go.Gx
variable {P:Program} {ops:Array Oper} {Q:Exit→Act→World→Prop} {C0 C1:World→Prop}
def wpAnyD (P:Program) (ops:Array Oper) (C0 C1:World→Prop) (st:Nat) (Q:Exit→Act→World→Prop):Nat→Array Bool→Act→World→Prop
  | 0,listed,a,w=>C0 w∧(listed.getD st false=false→C1 w)∧Region.ready .any ops listed=[]∧Q .normal a w
  | f+1,listed,a,w=>C0 w∧(listed.getD st false=false→C1 w)∧(Region.ready .any ops listed=[]→Q .normal a w)∧∀ i∈Region.ready .any ops listed,wpOp P ops Q i (wpAnyD P ops C0 C1 st Q f (listed.setIfInBounds i true)) a w
theorem wpAnyD.any {st:Nat}:∀ (f:Nat) (listed:Array Bool) (a:Act) (w:World),wpAnyD P ops C0 C1 st Q f listed a w→wpAny P .any ops Q f listed a w
  | 0,_,_,_,h=>h.2.2
  | f+1,_,_,_,h=>⟨h.2.2.1,fun i hi=>wpOp_mono (fun _ _ h'=>wpAnyD.any f _ _ _ h') (h.2.2.2 i hi)⟩
theorem wpAnyD.here {st f:Nat} {listed:Array Bool} {a:Act} {w:World} (h:wpAnyD P ops C0 C1 st Q f listed a w):C0 w∧(listed.getD st false=false→C1 w):=by
  cases f <;> exact ⟨h.1,h.2.1⟩
theorem wpAnyD.take0 {i st:Nat} {oi:Oper} {v:Value} (hi:ops[i]? = some oi) (hsel:∀ (j:Nat) (o:Oper) cs b,ops[j]? = some o→o.op≠.select cs b)
    (hQ:∀ c a w,Q (.panic c) (a.put oi.dst v) w→Q (.panic c) a w) (hne:st≠i):
    ∀ (fuel:Nat) (listed:Array Bool) (a:Act) (w:World),
      (∀ j oj,ops[j]? = some oj→j≠i→listed.getD j true=false→(∀ e∈oj.after,Region.binds .any e=true→e.on≠i)→oi.apart ops oj=true)→
      i∈Region.ready .any ops listed→YF P ops C0 oi v a→
      wpAnyD P ops C0 C1 st Q fuel (listed.setIfInBounds i true) (a.put oi.dst v) w→wpAnyD P ops C0 C1 st Q (fuel+1) listed a w:=by
  intro fuel;induction fuel with
  | zero=>
    intro listed a w _ hr hy H;refine ⟨H.1,fun h=>H.2.1 (by rw [getD_set_ne false hne.symm];exact h),fun h=>(by rw [h] at hr;cases hr),fun j hj=>?_⟩;by_cases hji:j=i
    · subst hji;exact hy.take hi H.1 H
    · have:=ready_mono hj hji;rw [H.2.2.1] at this;cases this
  | succ fuel ih=>
    intro listed a w hfree hr hy H;have hun:=(mem_ready.1 hr).1;refine ⟨H.1,fun h=>H.2.1 (by rw [getD_set_ne false hne.symm];exact h),fun h=>(by rw [h] at hr;cases hr),fun j hj=>?_⟩;by_cases hji:j=i
    · subst hji;exact hy.take hi H.1 H
    · have h1:=H.2.2.2 j (ready_mono hj hji);obtain ⟨hjun,oj,hoj,hall⟩:=mem_ready.1 hj;have hnot:∀ e∈oj.after,Region.binds .any e=true→e.on≠i:=fun e he hb heq=>by
        have h1:=hall e he hb;rw [heq,unlisted hun] at h1;cases h1
      have h2:=wpOp_lateF hoj (hfree j oj hoj hji hjun hnot) (fun cs b=>hsel i oi cs b hi) (fun cs b=>hsel j oj cs b hoj) hQ hy h1;refine wpOp_mono (fun a' w' h3=>ih (listed.setIfInBounds j true) a' w' (fun k ok hk hki hu hno=>?_) (ready_mono hr (Ne.symm hji)) h3.1 ?_) h2
      · refine hfree k ok hk hki ?_ hno;by_cases hjk:j=k
        · subst hjk;exact hjun
        · rw [getD_set_ne true hjk] at hu;exact hu
      · rw [Array.setIfInBounds_comm _ _ hji];exact h3.2
theorem wpAnyD.take1 {i st:Nat} {oi ost:Oper} {v:Value} (hi:ops[i]? = some oi) (hsel:∀ (j:Nat) (o:Oper) cs b,ops[j]? = some o→o.op≠.select cs b)
    (hQ:∀ c a w,Q (.panic c) (a.put oi.dst v) w→Q (.panic c) a w) (hst:ops[st]? = some ost) (hdep:∃ e∈ost.after,Region.binds .any e=true∧e.on=i) (hne:st≠i):
    ∀ (fuel:Nat) (listed:Array Bool) (a:Act) (w:World),
      (listed.getD st false=true→listed.getD i false=true)→
      (∀ j oj,ops[j]? = some oj→j≠i→listed.getD j true=false→(∀ e∈oj.after,Region.binds .any e=true→e.on≠i)→oi.apart ops oj=true)→
      i∈Region.ready .any ops listed→YF P ops C1 oi v a→
      wpAnyD P ops C0 C1 st Q fuel (listed.setIfInBounds i true) (a.put oi.dst v) w→wpAnyD P ops C0 C1 st Q (fuel+1) listed a w:=by
  intro fuel;induction fuel with
  | zero=>
    intro listed a w hcl _ hr hy H;have hun:=(mem_ready.1 hr).1;have hst0:listed.getD st false=false:=by
      cases hh:listed.getD st false
      · rfl
      · have:=hcl hh;rw [unlisted hun] at this;cases this
    have hC:C1 w:=H.2.1 (by rw [getD_set_ne false hne.symm];exact hst0);refine ⟨H.1,fun _=>hC,fun h=>(by rw [h] at hr;cases hr),fun j hj=>?_⟩;by_cases hji:j=i
    · subst hji;exact hy.take hi hC H
    · have:=ready_mono hj hji;rw [H.2.2.1] at this;cases this
  | succ fuel ih=>
    intro listed a w hcl hfree hr hy H;have hun:=(mem_ready.1 hr).1;have hst0:listed.getD st false=false:=by
      cases hh:listed.getD st false
      · rfl
      · have:=hcl hh;rw [unlisted hun] at this;cases this
    have hC:C1 w:=H.2.1 (by rw [getD_set_ne false hne.symm];exact hst0);refine ⟨H.1,fun _=>hC,fun h=>(by rw [h] at hr;cases hr),fun j hj=>?_⟩;by_cases hji:j=i
    · subst hji;exact hy.take hi hC H
    · have h1:=H.2.2.2 j (ready_mono hj hji);obtain ⟨hjun,oj,hoj,hall⟩:=mem_ready.1 hj;have hnot:∀ e∈oj.after,Region.binds .any e=true→e.on≠i:=fun e he hb heq=>by
        have h1:=hall e he hb;rw [heq,unlisted hun] at h1;cases h1
      have hjst:j≠st:=fun e=>by
        subst e;rw [hst] at hoj;cases hoj;obtain ⟨e,he,hb,hon⟩:=hdep;exact hnot e he hb hon
      have h2:=wpOp_lateF hoj (hfree j oj hoj hji hjun hnot) (fun cs b=>hsel i oi cs b hi) (fun cs b=>hsel j oj cs b hoj) hQ hy h1;refine wpOp_mono (fun a' w' h3=>ih (listed.setIfInBounds j true) a' w' (fun h=>?_) (fun k ok hk hki hu hno=>?_) (ready_mono hr (Ne.symm hji)) h3.1 ?_) h2
      · rw [getD_set_ne false hjst,hst0] at h;cases h
      · refine hfree k ok hk hki ?_ hno;by_cases hjk:j=k
        · subst hjk;exact hjun
        · rw [getD_set_ne true hjk] at hu;exact hu
      · rw [Array.setIfInBounds_comm _ _ hji];exact h3.2
section
variable {n st:Nat} {K:List Deferred→Env→World→Prop} {D:List Deferred} {E:Env} {w:World}
def LAD (P:Program) (n:Nat) (ops:Array Oper) (C0 C1:World→Prop) (st:Nat) (K:List Deferred→Env→World→Prop) (fuel:Nat) (listed:Array Bool) (D:List Deferred) (E:Env) (w:World):Prop:=
  ∀ a,Fr D n a E→wpAnyD P ops C0 C1 st (lift n (nrm K)) fuel listed a w
theorem W.drawD {id:Nat} {l:List Oper} {Q:Post} (R R1:Nat→Prop) (st:Nat) (hm:P.follows .mixedOrders=true)
    (h:∀ w1,Bel w w1→LAD P n l.toArray (Gr R w1) (Gr R1 w1) st (Q .normal) l.length (Array.replicate l.length false) D E w1):W P n (.region id l.toArray true) Q D E w:=by
  intro a ha;refine wp_mono (wp_region_any (Q:=lift n (nrm (Q .normal))) hm ?_) ?_
  · have:=(h _ (bel_drew _) a ha).any;simpa using this
  · rintro e a' w' ⟨he,E',hE,rfl,hq⟩;exact ⟨he,E',hE,hq⟩
theorem LAD.take0 {fuel:Nat} {listed:Array Bool} {i d:Nat} {op:Op} {t:TypeId} {p:String} {af:Array Edge} {v:Value}
    (ho:ops[i]? = some ⟨some d,op,t,p,af,none⟩) (hs:Region.noSelect ops=true) (hf:Region.free .any ops listed i=true) (hr:(Region.ready .any ops listed).contains i=true) (hne:Nat.beq st i=false)
    (hx:∀ w,C0 w→X P op t E w v w) (hd:Nat.blt d n=true) (k:LAD P n ops C0 C1 st K fuel (listed.setIfInBounds i true) D (upd E d v) w):LAD P n ops C0 C1 st K (fuel+1) listed D E w:=by
  intro a ha;refine wpAnyD.take0 ho (Region.noSelect_spec hs) ?_ (fun h=>by subst h;simp at hne) fuel listed a w (Region.free_spec ho hf) (by simpa using hr) (.inl ⟨by simp [Region.wanted],fun w hw=>?_⟩) (k _ (ha.put v hd))
  · rintro c a w ⟨_,E,_,h,_⟩;cases h
  · have:=hx w hw;unfold X at this;rw [execOp_bare,ha.eval];exact this
theorem LAD.take1 {fuel:Nat} {listed:Array Bool} {i d:Nat} {op:Op} {t:TypeId} {p:String} {af:Array Edge} {v:Value}
    (ho:ops[i]? = some ⟨some d,op,t,p,af,none⟩) (hs:Region.noSelect ops=true) (hf:Region.free .any ops listed i=true) (hr:(Region.ready .any ops listed).contains i=true) (hne:Nat.beq st i=false)
    (hst:(ops[st]?).map (fun o=>o.after.any fun e=>Region.binds .any e && Nat.beq e.on i)=some true) (hl:listed.getD st true=false)
    (hx:∀ w,C1 w→X P op t E w v w) (hd:Nat.blt d n=true) (k:LAD P n ops C0 C1 st K fuel (listed.setIfInBounds i true) D (upd E d v) w):LAD P n ops C0 C1 st K (fuel+1) listed D E w:=by
  intro a ha;cases hos:ops[st]? with
  | none=>rw [hos] at hst;cases hst
  | some ost=>
    rw [hos] at hst;simp only [Option.map_some,Option.some.injEq] at hst;obtain ⟨e,he,hb⟩:=Array.any_eq_true'.1 hst;simp only [Bool.and_eq_true] at hb;refine wpAnyD.take1 ho (Region.noSelect_spec hs) ?_ hos ⟨e,he,hb.1,Nat.eq_of_beq_eq_true hb.2⟩ (fun h=>by subst h;simp at hne) fuel listed a w (fun h=>by rw [unlisted hl] at h;cases h) (Region.free_spec ho hf) (by simpa using hr)
      (.inl ⟨by simp [Region.wanted],fun w hw=>?_⟩) (k _ (ha.put v hd))
    · rintro c a w ⟨_,E,_,h,_⟩;cases h
    · have:=hx w hw;unfold X at this;rw [execOp_bare,ha.eval];exact this
theorem LAD.done {listed:Array Bool} (hr:Region.ready .any ops listed=[]) (hl:listed.getD st false=true) (hC:C0 w) (h:K D E w):LAD P n ops C0 C1 st K 0 listed D E w:=
  fun _ ha=>⟨hC,fun h0=>(by rw [hl] at h0;cases h0),hr,lift_mk (by simp) ha ⟨rfl,h⟩⟩
def LADs (P:Program) (n:Nat) (ops:Array Oper) (C0 C1:World→Prop) (st:Nat) (K:List Deferred→Env→World→Prop) (fuel:Nat) (listed:Array Bool) (D:List Deferred) (E:Env) (w:World):List Nat→Prop
  | []=>True
  | i :: r=>(∃ o,ops[i]? = some o∧L P n ops (thn (LAD P n ops C0 C1 st K fuel (listed.setIfInBounds i true)) (nrm K)) [o] D E w)∧LADs P n ops C0 C1 st K fuel listed D E w r
theorem LAD.step {fuel:Nat} {listed:Array Bool} {rs:List Nat} (hC0:C0 w) (hC1:listed.getD st false=false→C1 w) (hr:Region.ready .any ops listed=rs) (hne:rs≠[])
    (h:LADs P n ops C0 C1 st K fuel listed D E w rs):LAD P n ops C0 C1 st K (fuel+1) listed D E w:=by
  intro a ha;refine ⟨hC0,hC1,fun h0=>absurd (hr.symm.trans h0) hne,fun j hj=>?_⟩;rw [hr] at hj;have key:∀ rs:List Nat,LADs P n ops C0 C1 st K fuel listed D E w rs→j∈rs→∃ o,ops[j]? = some o∧L P n ops (thn (LAD P n ops C0 C1 st K fuel (listed.setIfInBounds j true)) (nrm K)) [o] D E w:=by
    intro rs;induction rs with
    | nil=>intro _ hi;cases hi
    | cons k r ih=>
      intro hL hi;rcases List.mem_cons.1 hi with rfl | hi
      · exact hL.1
      · exact ih hL.2 hi
  obtain ⟨o,ho,hLo⟩:=key rs h hj;have h1:=hLo a ha;have hl:∀ e a w,lift n (thn (LAD P n ops C0 C1 st K fuel (listed.setIfInBounds j true)) (nrm K)) e a w→Exit.then (wpAnyD P ops C0 C1 st (lift n (nrm K)) fuel (listed.setIfInBounds j true)) (lift n (nrm K)) e a w:=by
    intro e a w ⟨h1,E',h2,h3⟩;cases e <;> simp only [thn,Exit.then] at h3 ⊢;case normal=>exact h3 a h2
    case outgrown=>exact absurd rfl h1
    all_goals exact ⟨by simp,E',h2,h3⟩
  unfold wpOp;rw [ho];simp only;unfold wpList at h1;split
  · rename_i hw
    rw [if_pos hw] at h1;rcases h1 with h1 | ⟨_,a',w',h1⟩
    · refine .inl ?_;unfold Oper.wp at h1 ⊢;generalize (execOp a.eval o).run P w=res at h1 ⊢;cases res with
      | ok x w'=>
        cases x <;> simp only [Oper.upon,wpList] at h1 ⊢ <;> try exact hl _ _ _ h1
        · refine h1.mono fun e w'' h=>?_
          cases e with
          | returned v=>exact hl _ _ _ h
          | panicked c=>exact hl _ _ _ h
          | outgrown=>obtain ⟨a',w',h⟩:=h;exact absurd rfl h.1
        · exact h1.mono fun v w'' h=>hl _ _ _ h
      | halt x w'=>cases x <;> simp only [Oper.upon] at h1 ⊢ <;> try exact hl _ _ _ h1
    · exact absurd rfl h1.1
  · rename_i hw;rw [if_neg hw] at h1;exact hl _ _ _ h1
theorem LAD.step' {fuel:Nat} {listed:Array Bool} {rs:List Nat} (hC0:C0 w) (hl:listed.getD st false=true) (hr:Region.ready .any ops listed=rs) (hne:rs≠[])
    (h:LADs P n ops C0 C1 st K fuel listed D E w rs):LAD P n ops C0 C1 st K (fuel+1) listed D E w:=LAD.step hC0 (fun h0=>by rw [hl] at h0;cases h0) hr hne h
end
theorem Gr.keepRowR {R:Nat→Prop} {a b:World} (h:Gr R a b) {bl o k:Nat} {vs:List Value} (hn:¬ R bl) (hl:vs.length=k) (hc:∀ j,j<k→a.cell? ⟨bl,o+j,none⟩=vs[j]?):∀ j,j<k→b.cell? ⟨bl,o+j,none⟩=vs[j]? := fun j hj=>by
  have hv:=List.getElem?_eq_getElem (l:=vs) (i:=j) om_;rw [hv];exact h.cell (by rw [hc j hj,hv]) hn
theorem Gr.keepR {R:Nat→Prop} {a b:World} (h:Gr R a b) {p:Addr} {v:Value} (hn:¬ R p.block) (hv:a.cell? p=some v):b.cell? p=some v:=h.cell hv hn
theorem Gr.into {R:Nat→Prop} {a b c:World} {k:Nat} (h:Gr R a b) (g:Gr (· = k) b c) (hk:R k):Gr R a c:=
  h.trans (g.mono fun j _ e=>by have e:j=k:=e;rw [e];exact hk)
theorem Gr.intoR {R S:Nat→Prop} {a b c:World} (h:Gr R a b) (g:Gr S b c) (hk:∀ k,S k→R k):Gr R a c:=h.trans (g.mono fun j _ e=>hk j e)
end Go.Gx
namespace Go.Gx
open Go.Proofs
def B8 (b:UInt8):Value:=.int .u8 (b.toNat:Int)
theorem b8_lt (b:UInt8):b.toNat≤255:=by have:=b.toNat_lt;omega
theorem B8_of {n:Int} (h:0≤n∧n≤255):Value.int .u8 n=B8 (UInt8.ofNat n.toNat):=by
  unfold B8;rw [UInt8.toNat_ofNat'];congr 1;have:n.toNat % 2 ^ 8=n.toNat:=Nat.mod_eq_of_lt om_;rw [this];omega
theorem B8_one (l:List UInt8):∀ v∈l.map B8,v.oneCell'=true:=fun v hv=>by
  obtain ⟨b,-,rfl⟩:=List.mem_map.1 hv;rfl
def lowB (n:Int):UInt8:=UInt8.ofNat (n % 256).toNat
theorem wrap_u8 (n:Int):Value.int .u8 (IntKind.u8.wrap n)=B8 (lowB n):=by
  have h:IntKind.u8.wrap n=n % 256:=by rw [IntKind.wrap_u8]
  rw [h,B8_of om_];rfl
section
variable {P:Program} {E:Env} {w:World}
theorem x_bor {x y:Operand} {t u z:TypeId} {k:IntKind} {a b:Int} (hx:ev E x=.int k a) (hy:ev E y=.int k b):X P (.binOp .or u x y z) t E w (.int k (bits .or k a b)) w:=by
  unfold X;simp [execOp,hx,hy,go_sem]
theorem x_rem {x y:Operand} {t u z:TypeId} {k:IntKind} {a b c:Int} (hx:ev E x=.int k a) (hy:ev E y=.int k b) (ha:0≤a) (hb:b≠0) (hc:a % b=c):X P (.binOp .rem u x y z) t E w (.int k c) w:=by
  have h:a.tmod b=c:=by rw [Int.tmod_eq_emod_of_nonneg ha,hc]
  unfold X;simp [execOp,hx,hy,go_sem,Op.intDiv,hb,h]
theorem x_neg {x:Operand} {t u:TypeId} {k:IntKind} {a c:Int} (hx:ev E x=.int k a) (hc:k.wrap (0 - a)=c):X P (.unOp .neg u x) t E w (.int k c) w:=by
  unfold X;simp [execOp,hx,go_sem,← hc]
theorem x_cpl {x:Operand} {t u:TypeId} {k:IntKind} {a:Int} (hx:ev E x=.int k a) (hk:k.signed=false):X P (.unOp .xor u x) t E w (.int k (bits .xor k k.max a)) w:=by
  unfold X;simp [execOp,hx,go_sem,hk]
theorem x_convB {x:Operand} {t s d:TypeId} {k:IntKind} {a:Int} (hs:(P.underlying s).isSome=true) (hd:P.underlying d=some (.int .u8)) (hx:ev E x=.int k a):X P (.convert s d x) t E w (B8 (lowB a)) w:=by
  rw [← wrap_u8];exact x_conv hs hd hx rfl
theorem x_slAB {x y y':Operand} {t s:TypeId} {a:Str} {k k':IntKind} {i i':Int} {j j':Nat} (hu:P.underlying s=some .string) (hx:ev E x=S a) (hy:ev E y=.int k i) (hy':ev E y'=.int k' i') (hi:i=(j:Nat)) (hi':i'=(j':Nat)) (hj:j≤j') (hj':j'≤a.length):
    X P (.slice s x (some y) (some y') none) t E w (S ((a.drop j).take (j' - j))) w:=by
  unfold X;subst hi;subst hi';have hs:j'≤(⟨a.toArray⟩:ByteArray).size:=hj';have he:(⟨a.toArray⟩:ByteArray).extract j j'=⟨((a.drop j).take (j' - j)).toArray⟩:=by
    apply ByteArray.ext;simp [ByteArray.data_extract]
  simp [execOp,hx,hy,hy',S,Instr.sliceAt,Instr.slice,Instr.sliceBounds,Instr.sliceBound,asIntOf,run_underlying hu,hs,hj,he]
theorem x_slB {x y:Operand} {t s:TypeId} {a:Str} {k:IntKind} {i:Int} {j:Nat} (hu:P.underlying s=some .string) (hx:ev E x=S a) (hy:ev E y=.int k i) (hi:i=(j:Nat)) (hj:j≤a.length):
    X P (.slice s x (some y) none none) t E w (S (a.drop j)) w:=by
  unfold X;subst hi;have hs:j≤(⟨a.toArray⟩:ByteArray).size:=hj;have he:(⟨a.toArray⟩:ByteArray).extract j (⟨a.toArray⟩:ByteArray).size=⟨(a.drop j).toArray⟩:=by
    apply ByteArray.ext;simp [ByteArray.data_extract,ByteArray.size,List.take_of_length_le]
  simp [execOp,hx,hy,S,Instr.sliceAt,Instr.slice,Instr.sliceBounds,Instr.sliceBound,asIntOf,run_underlying hu,hs,he]
theorem x_b2s {x:Operand} {t s d e:TypeId} {bl o c:Nat} {l:List UInt8} {n:Nat} (hs:P.underlying s=some (.slice e)) (he:P.underlying e=some (.int .u8)) (hd:P.underlying d=some .string) (hx:ev E x=.slice (some ⟨bl,o,none⟩) n c) (hn:n=l.length)
    (hc:∀ j,j<l.length→w.cell? ⟨bl,o+j,none⟩=(l.map B8)[j]?):X P (.convert s d x) t E w (S l) w:=by
  unfold X;subst hn;have h:=run_convert_bytes_back (P:=P) w s d e ⟨bl,o,none⟩ c l hs he hd (fun j hj=>by
    rw [addp,hc j hj,List.getElem?_map,List.getElem?_eq_getElem hj];rfl)
  simp [execOp,hx,h,S]
theorem x_slArr {x:Operand} {t s e:TypeId} {a:Addr} {n sz:Nat} (hu:P.underlying s=some (.array n e)) (hs:(P.info? e).map (·.size)=some sz) (hx:ev E x=.pointer (some a)) (h0:Nat.blt 0 n=true):X P (.slice s x none none none) t E w (.slice (some a) n n) w:=by
  unfold X;cases hi:P.info? e with
  | none=>simp [hi] at hs
  | some inf=>
    have hn:¬ n=0:=by rw [Nat.blt_eq] at h0;omega
    simp [execOp,hx,Instr.sureAddr,Instr.sliceAt,Instr.sliceBounds,run_underlying hu,sizeOf,typeInfo,hi,Addr.add]
theorem x_slArrN {x y:Operand} {t s e:TypeId} {a:Addr} {n sz j:Nat} {k:IntKind} {i:Int} (hu:P.underlying s=some (.array n e)) (hs:(P.info? e).map (·.size)=some sz) (hx:ev E x=.pointer (some a)) (hy:ev E y=.int k i) (hi:i=(j:Nat)) (hj:j≤n):X P (.slice s x none (some y) none) t E w (.slice (some a) j n) w:=by
  unfold X;subst hi;cases hi:P.info? e with
  | none=>simp [hi] at hs
  | some inf=>simp [execOp,hx,hy,Instr.sureAddr,Instr.sliceAt,Instr.sliceBounds,Instr.sliceBound,asIntOf,run_underlying hu,sizeOf,typeInfo,hi,Addr.add,hj]
end
def BoxM (w:World) (b:Nat) (t:TypeId) (cs:List Value):Prop:=∃ n,w.heap[b]? = some (.cells cs.toArray t (n,n+1))∧cs.length≤n
section
variable {w w':World} {b:Nat} {t:TypeId} {cs:List Value}
theorem BoxM.lt (h:BoxM w b t cs):b<w.heap.size:=by
  obtain ⟨n,h,-⟩:=h;exact (Array.getElem?_eq_some_iff.1 h).1
theorem BoxM.carryR {R:Nat→Prop} (h:BoxM w b t cs) (g:Gr R w w') (hn:¬ R b):BoxM w' b t cs:=by
  obtain ⟨n,h1,h2⟩:=id h;exact ⟨n,by rw [g.block b h.lt hn];exact h1,h2⟩
theorem BoxM.carry (h:BoxM w b t cs) (g:Bel w w'):BoxM w' b t cs:=h.carryR g (fun f=>f)
theorem BoxM.cell (h:BoxM w b t cs) {i:Nat} {v:Value} (hv:cs[i]? = some v):w.cell? ⟨b,i,none⟩=some v:=by
  obtain ⟨n,h,-⟩:=h;simp [World.cell?,h,hv]
theorem BoxM.cell0 (h:BoxM w b t cs) {i:Nat} {v:Value} (hv:cs[i]? = some v):w.cell? ⟨b,0+i,none⟩=some v:=by rw [Nat.zero_add];exact h.cell hv
theorem BoxM.free (h:BoxM w b t cs) {i:Nat} (hi:i<cs.length):w.frozen? ⟨b,i,none⟩=false:=by
  obtain ⟨n,h,h2⟩:=h;simp only [World.frozen?,h];simp;omega
theorem BoxM.set (h:BoxM w b t cs) (i:Nat) (v:Value):BoxM (w.setCell ⟨b,i,none⟩ v) b t (cs.set i v):=by
  obtain ⟨n,h,h2⟩:=h;refine ⟨n,?_,by rw [List.length_set];exact h2⟩;simp [World.setCell,Array.getElem?_modify,h]
end
section
variable {P:Program} {n:Nat} {Q:Post} {D:List Deferred} {E:Env} {w:World}
theorem L.setM {ops:Array Oper} {r:List Oper} {x y:Operand} {s t:TypeId} {p:String} {af:Array Edge} {b i:Nat} {T:TypeId} {cs:List Value} {v:Value} (hs:(P.info? s).map (·.size)=some 1)
    (hx:ev E x=.pointer (some ⟨b,i,none⟩)) (hy:ev E y=v) (h1:v.oneCell'=true) (hb:BoxM w b T cs) (hi:i<cs.length)
    (k:∀ w1,BoxM w1 b T (cs.set i v)→Gr (· = b) w w1→w1.heap.size=w.heap.size→L P n ops Q r D E w1):L P n ops Q (⟨none,.store s x y,t,p,af,none⟩ :: r) D E w:=
  L.skip (x_st hs hx hy h1 (hb.cell (List.getElem?_eq_getElem hi)) (hb.free hi)) (k _ (hb.set i v) (gr_setCell w ⟨b,i,none⟩ v) (by simp))
theorem L.s2b {ops:Array Oper} {r:List Oper} {d:Nat} {x:Operand} {s t e ty:TypeId} {p:String} {af:Array Edge} {l:Str} (hs:P.underlying s=some .string) (ht:P.underlying t=some (.slice e)) (he:P.underlying e=some (.int .u8)) (hx:ev E x=S l) (hd:Nat.blt d n=true)
    (k:∀ w1 cap tl,BoxM w1 w.heap.size e (l.map B8++tl)→Bel w w1→w1.heap.size=w.heap.size+1→l.length≤cap→L P n ops Q r D (upd E d (.slice (some ⟨w.heap.size,0,none⟩) l.length cap)) w1):
    L P n ops Q (⟨some d,.convert s t x,ty,p,af,none⟩ :: r) D E w:=by
  have hrun:=run_bytes_of_string (P:=P) w s t e ⟨l.toArray⟩ hs ht he;have hsz:(⟨l.toArray⟩:ByteArray).size=l.length:=rfl;rw [hsz] at hrun;refine L.val (v:=.slice (some ⟨w.heap.size,0,none⟩) l.length (grownCap w l.length 0 e)) (w':=w.drew.alloc (.cells (bytesRow ⟨l.toArray⟩ (grownCap w l.length 0 e)) e ((bytesRow ⟨l.toArray⟩ (grownCap w l.length 0 e)).size,(bytesRow ⟨l.toArray⟩ (grownCap w l.length 0 e)).size+1))) ?_ hd
    (k _ (grownCap w l.length 0 e) (List.replicate (grownCap w l.length 0 e - l.length) (.int .u8 0)) ⟨(bytesRow ⟨l.toArray⟩ (grownCap w l.length 0 e)).size,?_,?_⟩ ((bel_drew _).trans (bel_alloc _ _)) (by simp) ?_)
  · unfold X;simp only [execOp,Sem.run_bind,hx,S,hrun];rfl
  · show (w.drew.heap.push _)[w.heap.size]? = _;have:w.drew.heap.size=w.heap.size:=rfl;rw [← this,Array.getElem?_push,if_pos rfl];have:(bytesRow ⟨l.toArray⟩ (grownCap w l.length 0 e))=(l.map B8++List.replicate (grownCap w l.length 0 e - l.length) (Value.int .u8 0)).toArray:=by
      unfold bytesRow;rw [hsz];apply Array.ext';simp only [Array.toList_append,Array.toList_map,Array.toList_replicate];rfl
    rw [this]
  · unfold bytesRow;rw [hsz];simp
  · exact grownCap_ge w _ _ _
theorem L.mkkc {ops:Array Oper} {r:List Oper} {d:Nat} {x y:Operand} {s e t:TypeId} {p:String} {af:Array Edge} {z:Value} (k c:Nat) (hu:P.underlying s=some (.slice e)) (he:elT P e 1=true) (hz:(P.info? e).bind (·.zero)=some z) (hzc:z.cells=#[z])
    (hx:ev E x=.int .i64 (k:Nat)) (hy:ev E y=.int .i64 (c:Nat)) (hk:k≤c) (hc:c≤400000000000) (hd:Nat.blt d n=true)
    (kk:∀ w1,Box w1 w.heap.size e (List.replicate c z)→Own w1 w.heap.size e 1 (.slice (some ⟨w.heap.size,0,none⟩) k c) k (List.replicate k z)→Bel w w1→w1.heap.size=w.heap.size+1→L P n ops Q r D (upd E d (.slice (some ⟨w.heap.size,0,none⟩) k c)) w1):
    L P n ops Q (⟨some d,.makeSlice s x y,t,p,af,none⟩ :: r) D E w:=by
  obtain ⟨inf,z',hinf,hz',hs,hzs,hpos,hby⟩:=elT_spec he;have hzz:z'=z:=by rw [hinf] at hz;simp only [Option.bind_some] at hz;rw [hz'] at hz;exact Option.some.inj hz
  subst hzz;have hrun:=run_make (P:=P) w s e inf z' hu hinf hz' .i64 .i64 (k:Nat) (c:Nat) om_ om_ (by have:(inf.bytes:Int) * (c:Int)≤200 * (c:Int):=Int.mul_le_mul_of_nonneg_right om_ om_;omega) om_;have hmade:madeCells z'.cells (((c:Nat):Int).toNat * inf.size)=(List.replicate c z').toArray:=by
    rw [hs,hzc];simp [madeCells];apply Array.ext';simp;apply List.ext_getElem
    · simp
    · intro i h1 h2;simp [Nat.mod_one]
  rw [hmade] at hrun;have hb:=box_alloc w e (List.replicate c z');refine L.val (v:=.slice (some ⟨w.heap.size,0,none⟩) k c) (w':=w.alloc (.cells (List.replicate c z').toArray e)) ?_ hd (kk _ hb ⟨by simp,.inr ⟨w.heap.size,c,_,rfl,Nat.le_refl _,hb,hk,by simp only [maxLen];omega,by simp,?_⟩⟩ (bel_alloc _ _) (by simp))
  · unfold X;simp only [execOp,Sem.run_bind,hx,hy,hrun];simp [Result.andThen]
  · simp [List.take_replicate,Nat.min_eq_left hk]
theorem L.cpS {ops:Array Oper} {r:List Oper} {d:Nat} {x y:Operand} {dT sT e t T:TypeId} {p:String} {af:Array Edge} {b o dl dc:Nat} {l:Str} {cs:List Value} (hu:P.underlying dT=some (.slice e)) (hs:(P.info? e).map (·.size)=some 1)
    (hx:ev E x=.slice (some ⟨b,o,none⟩) dl dc) (hy:ev E y=S l) (hd:Nat.blt d n=true) (hb:Box w b T cs) (hle:l.length≤dl) (hfit:o+l.length≤cs.length)
    (kk:∀ w1,Box w1 b T (cs.take o++l.map B8++cs.drop (o+l.length))→Gr (· = b) w w1→w1.heap.size=w.heap.size→L P n ops Q r D (upd E d (.int .i64 (l.length:Nat))) w1):
    L P n ops Q (⟨some d,.call ⟨.builtin .copy,#[x,y],#[dT,sT]⟩,t,p,af,none⟩ :: r) D E w:=by
  have hrun:=Lib.run_copy_row_string (P:=P) w dT sT t e b o dl dc ⟨l.toArray⟩ cs.toArray T hu hs hb hle (by show o+l.length≤cs.toArray.size;simpa using hfit);have hsz:(⟨l.toArray⟩:ByteArray).size=l.length:=rfl;rw [hsz] at hrun;refine L.val (v:=.int .i64 (l.length:Nat)) (w':=w.setRow b (cs.take o++l.map B8++cs.drop (o+l.length)).toArray) ?_ hd (kk _ (setRow_heap w b cs.toArray _ T (0,0) hb) ⟨rfl,rfl,rfl,by simp [World.setRow],fun k _ hk=>setRow_other w b k _ hk⟩ (by simp [World.setRow]));unfold X;simp only [S] at hy;have hg:goInt l.length=Value.int .i64 (l.length:Nat):=rfl;simp [execOp,resolve,invoke,builtin,hx,hy,hrun,Lib.byteCells,Result.andThen,hg];rfl
end
end Go.Gx
namespace Go.Proofs
open Go.Shelf
def Tryz.lays169_ren:Go.Shelf.Ren:=⟨fun | 169=>90 | n=>n,fun | 70=>144 | 9=>9 | 0=>0 | 72=>146 | 37=>59 | 127=>174 | 3=>3 | 5=>5 | n=>n,fun | n=>n⟩
theorem Tryz.lays169:Go.Proofs.Lays.n169 Tryz.prog Tryz.lays169_ren:={
  mixed:=by kernel_rfl
  f169:=Tryz.func90.trans (congrArg some (by kernel_rfl))
  t0:=Tryz.underlying0
  a0:=Tryz.isAgg0
  z0:=Tryz.sizeOf0
  v0:=Tryz.zeroValue0
  t3:=Tryz.underlying3
  a3:=Tryz.isAgg3
  z3:=Tryz.sizeOf3
  v3:=Tryz.zeroValue3
  t9:=Tryz.underlying9
  a9:=Tryz.isAgg9
  z9:=Tryz.sizeOf9
  v9:=Tryz.zeroValue9
  t37:=Tryz.underlying59
  a37:=Tryz.isAgg59
  z37:=Tryz.sizeOf59
  v37:=Tryz.zeroValue59
  t70:=Tryz.underlying144
  a70:=Tryz.isAgg144
  z70:=Tryz.sizeOf144
  v70:=Tryz.zeroValue144
  t72:=Tryz.underlying146
  a72:=Tryz.isAgg146
  z72:=Tryz.sizeOf146
  v72:=Tryz.zeroValue146
  t127:=Tryz.underlying174
  a127:=Tryz.isAgg174
  z127:=Tryz.sizeOf174
  v127:=Tryz.zeroValue174 }
theorem Tryz.Builder_Extra_169:Builder.Extra Tryz.prog Tryz.lays169_ren:={
  sizeBuilder:=by kernel_rfl
  liesBuilder:=by kernel_rfl
  t5:=Tryz.underlying5
  a5:=Tryz.isAgg5
  z5:=Tryz.sizeOf5
  v5:=Tryz.zeroValue5
  infoByte:=by kernel_rfl
  cellsByte:=by kernel_rfl
  sizeByte:=by kernel_rfl
  neB5:=by decide }
open Go.RowKit in
theorem Tryz.Builder_String_any (B b:Nat) (l:List UInt8) (w:World) (h:Lib.IsBuilder 146 5 B b (Lib.byteCells l) w) (hBw:B≤w.heap.size):
    Calls Tryz.prog 90 #[.pointer (some ⟨b,0,none⟩)] w fun e w'=>e=.returned (.string ⟨l.toArray⟩)∧Below B w w':=Any.Builder_String_any Tryz.lays169 Tryz.Builder_Extra_169 B b l w h hBw
def Tryz.lays129_ren:Go.Shelf.Ren:=⟨fun | 129=>140 | n=>n,fun | 53=>80 | 3=>3 | 4=>4 | 46=>186 | 5=>5 | 9=>9 | n=>n,fun | n=>n⟩
theorem Tryz.lays129:Go.Proofs.Lays.n129 Tryz.prog Tryz.lays129_ren:={
  mixed:=by kernel_rfl
  f129:=Tryz.func140.trans (congrArg some (by kernel_rfl))
  t3:=Tryz.underlying3
  a3:=Tryz.isAgg3
  z3:=Tryz.sizeOf3
  v3:=Tryz.zeroValue3
  t4:=Tryz.underlying4
  a4:=Tryz.isAgg4
  z4:=Tryz.sizeOf4
  v4:=Tryz.zeroValue4
  t5:=Tryz.underlying5
  a5:=Tryz.isAgg5
  z5:=Tryz.sizeOf5
  v5:=Tryz.zeroValue5
  t9:=Tryz.underlying9
  a9:=Tryz.isAgg9
  z9:=Tryz.sizeOf9
  v9:=Tryz.zeroValue9
  t46:=Tryz.underlying186
  a46:=Tryz.isAgg186
  z46:=Tryz.sizeOf186
  v46:=Tryz.zeroValue186
  t53:=Tryz.underlying80
  a53:=Tryz.isAgg80
  z53:=Tryz.sizeOf80
  v53:=Tryz.zeroValue80 }
theorem Tryz.bits_Len64 (x:Int) (w:World) (h0:0≤x) (h1:x≤18446744073709551615):
    Calls Tryz.prog 140 #[.int .u64 x] w fun e w'=>e=.returned (.int .i64 (Lib.bitLen x.toNat))∧w'=w:=Any.bits_Len64 Tryz.lays129 x w h0 h1
def Tryz.lays105_ren:Go.Shelf.Ren:=⟨fun | 105=>115 | 212=>129 | 99=>95 | 165=>130 | 166=>89 | 170=>131 | 169=>90 | 263=>141 | 264=>142 | 206=>123 | 240=>116 | 241=>143 | 276=>132 | 277=>155 | n=>n,fun | 9=>9 | 3=>3 | 4=>4 | 20=>20 | 0=>0 | 46=>186 | 109=>189 | 5=>5 | 72=>146 | 76=>150 | 51=>165 | 146=>200 | 53=>80 | 148=>202 | 70=>144 | 37=>59 | 75=>149 | 127=>174 | 164=>192 | 80=>39 | n=>n,fun | n=>n⟩
theorem Tryz.lays105:Go.Proofs.Lays.n105 Tryz.prog Tryz.lays105_ren:={
  mixed:=by kernel_rfl
  f99:=Tryz.func95.trans (congrArg some (by kernel_rfl))
  f105:=Tryz.func115.trans (congrArg some (by kernel_rfl))
  f165:=Tryz.func130.trans (congrArg some (by kernel_rfl))
  f166:=Tryz.func89.trans (congrArg some (by kernel_rfl))
  f169:=Tryz.func90.trans (congrArg some (by kernel_rfl))
  f170:=Tryz.func131.trans (congrArg some (by kernel_rfl))
  f206:=Tryz.func123.trans (congrArg some (by kernel_rfl))
  f212:=Tryz.func129.trans (congrArg some (by kernel_rfl))
  f240:=Tryz.func116.trans (congrArg some (by kernel_rfl))
  f241:=Tryz.func143.trans (congrArg some (by kernel_rfl))
  f263:=Tryz.func141.trans (congrArg some (by kernel_rfl))
  f264:=Tryz.func142.trans (congrArg some (by kernel_rfl))
  f276:=Tryz.func132.trans (congrArg some (by kernel_rfl))
  f277:=Tryz.func155.trans (congrArg some (by kernel_rfl))
  t0:=Tryz.underlying0
  a0:=Tryz.isAgg0
  z0:=Tryz.sizeOf0
  v0:=Tryz.zeroValue0
  t3:=Tryz.underlying3
  a3:=Tryz.isAgg3
  z3:=Tryz.sizeOf3
  v3:=Tryz.zeroValue3
  t4:=Tryz.underlying4
  a4:=Tryz.isAgg4
  z4:=Tryz.sizeOf4
  v4:=Tryz.zeroValue4
  t5:=Tryz.underlying5
  a5:=Tryz.isAgg5
  z5:=Tryz.sizeOf5
  v5:=Tryz.zeroValue5
  t9:=Tryz.underlying9
  a9:=Tryz.isAgg9
  z9:=Tryz.sizeOf9
  v9:=Tryz.zeroValue9
  t20:=Tryz.underlying20
  a20:=Tryz.isAgg20
  z20:=Tryz.sizeOf20
  v20:=Tryz.zeroValue20
  t37:=Tryz.underlying59
  a37:=Tryz.isAgg59
  z37:=Tryz.sizeOf59
  v37:=Tryz.zeroValue59
  t46:=Tryz.underlying186
  a46:=Tryz.isAgg186
  z46:=Tryz.sizeOf186
  v46:=Tryz.zeroValue186
  t51:=Tryz.underlying165
  a51:=Tryz.isAgg165
  z51:=Tryz.sizeOf165
  v51:=Tryz.zeroValue165
  t53:=Tryz.underlying80
  a53:=Tryz.isAgg80
  z53:=Tryz.sizeOf80
  v53:=Tryz.zeroValue80
  t70:=Tryz.underlying144
  a70:=Tryz.isAgg144
  z70:=Tryz.sizeOf144
  v70:=Tryz.zeroValue144
  t72:=Tryz.underlying146
  a72:=Tryz.isAgg146
  z72:=Tryz.sizeOf146
  v72:=Tryz.zeroValue146
  t75:=Tryz.underlying149
  a75:=Tryz.isAgg149
  z75:=Tryz.sizeOf149
  v75:=Tryz.zeroValue149
  t76:=Tryz.underlying150
  a76:=Tryz.isAgg150
  z76:=Tryz.sizeOf150
  v76:=Tryz.zeroValue150
  t109:=Tryz.underlying189
  a109:=Tryz.isAgg189
  z109:=Tryz.sizeOf189
  v109:=Tryz.zeroValue189
  t127:=Tryz.underlying174
  a127:=Tryz.isAgg174
  z127:=Tryz.sizeOf174
  v127:=Tryz.zeroValue174
  t146:=Tryz.underlying200
  a146:=Tryz.isAgg200
  z146:=Tryz.sizeOf200
  v146:=Tryz.zeroValue200
  t148:=Tryz.underlying202
  a148:=Tryz.isAgg202
  z148:=Tryz.sizeOf202
  v148:=Tryz.zeroValue202
  t164:=Tryz.underlying192
  a164:=Tryz.isAgg192
  z164:=Tryz.sizeOf192
  v164:=Tryz.zeroValue192 }
theorem Tryz.Builder_Extra_105:Builder.Extra Tryz.prog Tryz.lays105_ren:={
  sizeBuilder:=by kernel_rfl
  liesBuilder:=by kernel_rfl
  t5:=Tryz.underlying5
  a5:=Tryz.isAgg5
  z5:=Tryz.sizeOf5
  v5:=Tryz.zeroValue5
  infoByte:=by kernel_rfl
  cellsByte:=by kernel_rfl
  sizeByte:=by kernel_rfl
  neB5:=by decide }
open Go.RowKit Go.Lib in
theorem Tryz.strings_Repeat (s:ByteArray) (c:Nat) (w:World) (hc:c≤9223372036854775807) (hlen:s.size * c≤140737488355328):
    Calls Tryz.prog 115 #[.string s,.int .i64 c] w fun e w'=>e=.returned (.string ⟨(Lib.repeatL s.data.toList c).toArray⟩)∧Below w.heap.size w w':=Any.strings_Repeat Tryz.lays105 Tryz.Builder_Extra_105 s c w hc hlen
end Go.Proofs
namespace Go.Gx
open Go.Proofs
theorem koct1_el5:elT Tryz.prog 5 1=true:=by kernel_rfl
theorem koct1_en115:Go.Proofs.Enters Tryz.prog 115:=Go.Proofs.enters_of Tryz.func115 kr_ rfl
theorem koct1_en116:Go.Proofs.Enters Tryz.prog 116:=Go.Proofs.enters_of Tryz.func116 kr_ rfl
theorem koct1_fo146_0:fieldOff Tryz.prog 146 0=some 0:=by kernel_rfl
theorem koct1_fo146_1:fieldOff Tryz.prog 146 1=some 1:=by kernel_rfl
theorem koct1_oc144:oneCellT Tryz.prog 144=true:=by kernel_rfl
theorem koct1_oc59:oneCellT Tryz.prog 59=true:=by kernel_rfl
theorem koct1_sz144:(Tryz.prog.info? 144).map (·.size)=some 1:=by kernel_rfl
theorem koct1_sz59:(Tryz.prog.info? 59).map (·.size)=some 1:=by kernel_rfl
theorem gr_below {n₀ : Nat} {a b:World} (h:RowKit.Below n₀ a b):Gr (fun k=>n₀ ≤ k) a b:=⟨h.os,h.tape,h.output,h.size,fun k _ hn=>h.block k om_⟩
def zeros (n:Nat):Str:=List.replicate n 0
theorem zeros_len (n:Nat):(zeros n).length=n:=List.length_replicate
theorem repeatL_zero (n:Nat):Lib.repeatL [(0:UInt8)] n=zeros n:=by
  induction n with
  | zero=>rfl
  | succ n ih=>
    have:Lib.repeatL [(0:UInt8)] (n+1)=[0]++Lib.repeatL [0] n:=rfl;rw [this,ih];rfl
theorem repeat_ok (n:Nat) (hn:n≤1000000) (w:World):Ret Tryz.prog 115 #[S [0],.int .i64 (n:Nat)] w fun v w'=>v=S (zeros n)∧Bel w w':=by
  refine Calls.mono (Tryz.strings_Repeat ⟨#[0]⟩ n w om_ (by show 1 * n≤_;omega)) fun e w' ⟨he,hw⟩=>⟨_,he,?_,bel_of hw⟩
  have:(⟨#[0]⟩:ByteArray).data.toList=[0]:=rfl;rw [this,repeatL_zero];rfl
def BuilderIs (w:World) (b:Nat) (l:Str):Prop:=
  ∃ p v,(p=.pointer none∨p=.pointer (some ⟨b,0,none⟩))∧Box w b 146 [p,v]∧Own w b 5 1 v l.length (l.map B8)∧v.ownBlock≠some b
theorem BuilderIs.lt {w:World} {b:Nat} {l:Str} (h:BuilderIs w b l):b<w.heap.size:=by obtain ⟨p,v,-,h,-⟩:=h;exact h.lt
theorem BuilderIs.carryR {R:Nat→Prop} {w w':World} {b:Nat} {l:Str} (h:BuilderIs w b l) (g:Gr R w w') (hR:∀ k,b≤k→¬ R k):BuilderIs w' b l:=by
  obtain ⟨p,v,h1,h2,h3,h4⟩:=h;exact ⟨p,v,h1,h2.carryR g (hR b (Nat.le_refl _)),Own.carryR h3 g (fun j hj=>hR j (Own.lt h3 hj).1),h4⟩
theorem BuilderIs.carry {w w':World} {b:Nat} {l:Str} (h:BuilderIs w b l) (g:Bel w w'):BuilderIs w' b l:=h.carryR g (fun _ _ f=>f)
theorem builder_new {w:World} {b:Nat} (h:Box w b 146 [.pointer none,.slice none 0 0]):BuilderIs w b []:=⟨_,_,.inl rfl,h,own_nil,by simp [Value.ownBlock]⟩
theorem bstr_ok (b:Nat) (l:Str) (w:World) (h:BuilderIs w b l):Ret Tryz.prog 90 #[.pointer (some ⟨b,0,none⟩)] w fun v w'=>v=S l∧Gr (fun k=>b≤k) w w':=by
  have hlt:=h.lt;obtain ⟨p,v,hp,hb,ho,hn⟩:=h;have hA:∀ q,p=q→Lib.BuilderAt 146 5 b b q (Lib.byteCells l) w:=fun q e=>⟨Nat.le_refl _,v,by rw [← e];exact hb,by rw [Lib.byteCells_length];exact ho,hn⟩
  have hI:Lib.IsBuilder 146 5 b b (Lib.byteCells l) w:=hp.imp (hA _) (hA _);exact Calls.mono (Tryz.Builder_String_any b b l w hI om_) fun e w' ⟨he,hw⟩=>⟨_,he,rfl,gr_below hw⟩
theorem sh_box {w:World} {b:Nat} {t:TypeId} {cs:List Value} (h:Box w b t cs):w.shape? b=some (t,cs.length):=by
  unfold Box at h;simp [World.shape?,h]
theorem x_toUns {x:Operand} {s d t e:TypeId} {ty:TypeId} {E:Env} {w:World} {a:Addr} {cells:Nat} (hs:(Tryz.prog).underlying s=some (.pointer t)) (hd:(Tryz.prog).underlying d=some .unsafePointer) (ht:((Tryz.prog).info? t).map (fun i=>decide (i.size≠0))=some true) (hx:ev E x=.pointer (some a)) (hsh:w.shape? a.block=some (e,cells)) (hoff:a.off<cells):X (Tryz.prog) (.convert s d x) ty E w (.pointer (some a)) w:=by
  cases hi:(Tryz.prog).info? t with
  | none=>simp [hi] at ht
  | some j=>
    have hj:j.size≠0:=by simpa [hi] using ht
    unfold X;simp [execOp,hx,Lib.run_to_unsafe (P:=Tryz.prog) w a hs hd hi hj hsh hoff]
theorem x_fromUns {x:Operand} {s d u e:TypeId} {ty:TypeId} {E:Env} {w:World} {a:Addr} {cells:Nat} (hs:(Tryz.prog).underlying s=some .unsafePointer) (hd:(Tryz.prog).underlying d=some (.pointer u)) (hu:((Tryz.prog).info? u).isSome=true) (hx:ev E x=.pointer (some a)) (hsh:w.shape? a.block=some (e,cells)) (hlies:liesAt (Tryz.prog) (Tryz.prog).depth e (cells / (Tryz.prog).cellsOf e) a.off u 1=true):X (Tryz.prog) (.convert s d x) ty E w (.pointer (some a)) w:=by
  obtain ⟨j,hj⟩:=Option.isSome_iff_exists.1 hu;unfold X;simp [execOp,hx,Lib.run_from_unsafe (P:=Tryz.prog) w a hs hd hj hsh hlies]
theorem x_nepS {x y:Operand} {t u z e:TypeId} {E:Env} {w:World} {a:Addr} (hu:(Tryz.prog).underlying u=some (.pointer e)) (he:((Tryz.prog).info? e).isSome=true) (hx:ev E x=.pointer (some a)) (hy:ev E y=.pointer (some a)):X (Tryz.prog) (.binOp .neq u x y z) t E w (.bool false) w:=by
  obtain ⟨j,hj⟩:=Option.isSome_iff_exists.1 he;have hg:∀ d:Nat,(Op.eqGuardIn (d+1) u (.pointer (some a)) (.pointer (some a))).run (Tryz.prog) w=.ok false w:=fun d=>by simp [Op.eqGuardIn,run_underlying hu]
  unfold X;simp [execOp,hx,hy,eqGuard,Lib.run_neq_ptr_same (P:=Tryz.prog) w a hu hj,hg]
theorem L.appS {P:Program} {n:Nat} {Q:Post} {D:List Deferred} {E:Env} {w:World} {ops:Array Oper} {r:List Oper} {d:Nat} {x y:Operand} {T U t e:TypeId} {p:String} {af:Array Edge} {base k:Nat} {v:Value} {xs:List Value} {l:Str}
    (hu:P.underlying T=some (.slice e)) (hU:P.underlying U=some .string) (he:elT P e 1=true) (hz:(P.info? e).bind (·.zero)=some (.int .u8 0)) (hby:(P.info? e).map (·.bytes)=some 1) (hx:ev E x=v) (hy:ev E y=S l) (hd:Nat.blt d n=true) (h:Own w base e 1 v k xs)
    (hk:k+l.length≤140737488355328) (hb:base≤w.heap.size)
    (kk:∀ v' w',Own w' base e 1 v' (k+l.length) (xs++l.map B8)→Gr (fun j=>some j=v.ownBlock) w w'→L P n ops Q r D (upd E d v') w'):
    L P n ops Q (⟨some d,.call ⟨.builtin .append,#[x,y],#[T,U]⟩,t,p,af,none⟩ :: r) D E w:=by
  obtain ⟨i,z,hi,hz',hs,-⟩:=elT_spec he;have hz2:i.zero=some (.int .u8 0):=by simpa [hi] using hz
  have hb2:i.bytes=1:=by simpa [hi] using hby
  obtain ⟨v',w',hr,h1,h2,-⟩:=Lib.run_append_own_string (P:=P) w base T U t e i hu hU hi hz2 hs hb2 v k xs h ⟨l.toArray⟩ (by show k+l.length≤_;simp only [maxLen];omega) hk hb;refine L.val (v:=v') (w':=w') ?_ hd (kk v' w' h1 ⟨h2.os,h2.tape,h2.output,h2.size,fun j hj hn=>h2.block j hj (fun e=>hn e)⟩);unfold X;simp only [S] at hy;simp [execOp,resolve,invoke,builtin,hx,hy,hr,Result.andThen]
theorem ccheck_ok (b:Nat) (l:Str) (w:World) (h:BuilderIs w b l):Ret Tryz.prog 116 #[.pointer (some ⟨b,0,none⟩)] w fun _ w'=>(∃ v,Box w' b 146 [.pointer (some ⟨b,0,none⟩),v]∧Own w' b 5 1 v l.length (l.map B8)∧v.ownBlock≠some b)∧Gr (fun k=>b≤k) w w':=by
  have hlt:=h.lt;obtain ⟨p,v,hp,hb,ho,hn⟩:=h;rcases hp with rfl | rfl
  · have hlt0:=hlt;refine ret_of_W Tryz.func116 rfl (Nat.le_of_ble_eq_true rfl) (res0 rfl) ?_;refine W.seq (W.region (L.val (x_mv (v:=.pointer _) rfl) rfl ?_));refine L.val (x_nil rfl) rfl ?_;refine L.val (x_fa koct1_fo146_0 rfl) rfl ?_;refine L.val (x_ld (v:=.pointer _) koct1_oc144 rfl (hb.cell0 rfl)) rfl ?_;refine L.val (x_eqp0 Tryz.underlying144 rfl rfl) rfl ?_;refine L.nil (thn_n (W.cond (b:=_) rfl (fun g6=>?_) (fun g6=>?_)))
    ·have h6:=g6;refine W.region (L.val (x_mv (v:=.pointer _) rfl) rfl ?_);refine L.val (x_mv (v:=.pointer _) rfl) rfl ?_;refine L.val (x_toUns Tryz.underlying144 Tryz.underlying192 kr_ rfl (sh_box hb) (by simp)) rfl ?_;refine L.val (x_extn (e:=Extern.AbiNoEscape.same) Tryz.func132 kr_ kr_ kr_ kr_ rfl (Lib.run_noEscape _ _)) rfl ?_;refine L.val (x_fromUns Tryz.underlying192 Tryz.underlying144 kr_ rfl (sh_box hb) kr_) rfl ?_;refine L.val (x_nil rfl) rfl ?_;refine L.val (x_fa koct1_fo146_0 rfl) rfl ?_;refine L.set (v:=.pointer _) koct1_sz144 rfl rfl rfl hb rfl (fun wl13 hb hw hzl13=>?_);have ho:=Own.carryR ho hw (fun j hj e=>by have e:j=b:=e;rw [e] at hj;exact hn hj.symm);refine L.nil (fin_mk (.inl rfl) ?_);exact ⟨⟨v,hb,ho,hn⟩,hw.mono (fun k _ e=>by have e:k=b:=e;omega)⟩
    ·have h6:=g6;cases g6
  · have hlt0:=hlt;refine ret_of_W Tryz.func116 rfl (Nat.le_of_ble_eq_true rfl) (res0 rfl) ?_;refine W.seq (W.region (L.val (x_mv (v:=.pointer _) rfl) rfl ?_));refine L.val (x_nil rfl) rfl ?_;refine L.val (x_fa koct1_fo146_0 rfl) rfl ?_;refine L.val (x_ld (v:=.pointer _) koct1_oc144 rfl (hb.cell0 rfl)) rfl ?_;refine L.val (x_eqp0 Tryz.underlying144 rfl rfl) rfl ?_;refine L.nil (thn_n (W.cond (b:=_) rfl (fun g6=>?_) (fun g6=>?_)))
    ·have h6:=g6;cases g6
    ·have h6:=g6;refine W.seq (W.region (L.val (x_mv (v:=.pointer _) rfl) rfl ?_));refine L.val (x_nil rfl) rfl ?_;refine L.val (x_fa koct1_fo146_0 rfl) rfl ?_;refine L.val (x_ld (v:=.pointer _) koct1_oc144 rfl (hb.cell0 rfl)) rfl ?_;refine L.val (x_mv (v:=.pointer _) rfl) rfl ?_;refine L.val (x_nepS Tryz.underlying144 kr_ rfl rfl) rfl ?_;refine L.nil (thn_n (W.cond (b:=_) rfl (fun g19=>?_) (fun g19=>?_)))
     ·have h19:=g19;cases g19
     ·have h19:=g19;refine W.skip (fin_mk (.inl rfl) ?_);exact ⟨⟨v,hb,ho,hn⟩,Gr.refl _ _⟩
theorem wstr_ok (b:Nat) (l s:Str) (w:World) (h:BuilderIs w b l) (hl:l.length+s.length≤100000000):Ret Tryz.prog 89 #[.pointer (some ⟨b,0,none⟩),S s] w fun _ w'=>BuilderIs w' b (l++s)∧Gr (fun k=>b≤k) w w':=by
  refine ret_of_W Tryz.func89 rfl (Nat.le_of_ble_eq_true rfl) (res2 rfl) ?_;refine W.seq (W.region (L.val (x_as (v:=.int _ _) rfl) rfl ?_));refine L.val (x_as (v:=_) rfl) rfl ?_;refine L.nil (thn_n (W.seq (W.region (L.val (x_mv (v:=.pointer _) rfl) rfl ?_))));refine L.ret (x_call koct1_en116 rfl) rfl (ccheck_ok b l _ h) ?_;rintro _ w7 ⟨⟨v7,hb,ho,hn⟩,hG⟩;refine L.nil (thn_n (W.seq (W.region ?_)));have hlt:=hb.lt;obtain ⟨a7,c7,e7,-⟩:=own_shape ho;subst e7;refine L.val (x_mv (v:=.pointer _) rfl) rfl ?_;refine L.val (x_mv (v:=.pointer _) rfl) rfl ?_;refine L.val (x_nil rfl) rfl ?_;refine L.val (x_fa koct1_fo146_1 rfl) rfl ?_;refine L.val (x_ld (v:=.slice _ _ _) koct1_oc59 rfl (hb.cell0 rfl)) rfl ?_;refine L.val (x_mv (v:=S _) rfl) rfl ?_;refine L.appS Tryz.underlying59 Tryz.underlying9 koct1_el5 kr_ kr_ rfl rfl rfl ho om_ om_ (fun v14 w14 hO14 hg=>?_);have hb:=hb.carryR hg (fun e=>hn e.symm);have hn2:=own_box_ne hO14 hb (by decide);obtain ⟨a14,c14,e14,-⟩:=own_shape hO14;subst e14;refine L.val (x_nil rfl) rfl ?_;refine L.val (x_fa koct1_fo146_1 rfl) rfl ?_;refine L.set (v:=.slice _ _ _) koct1_sz59 rfl rfl rfl hb rfl (fun wl14 hb hw hzl14=>?_);have hO:=Own.carryR hO14 hw (fun j hj e=>by have e:j=b:=e;rw [e] at hj;exact hn2 hj);refine L.nil (thn_n (W.seq (W.region (L.val (x_mv (v:=S _) rfl) rfl ?_))));refine L.val (x_len_str Tryz.underlying9 rfl) rfl ?_;refine L.val (x_as (v:=.int _ _) rfl) rfl ?_;refine L.val (x_as (v:=_) rfl) rfl ?_;refine L.nil (thn_n (W.ret (fin_mk (.inr rfl) ?_)));refine ⟨⟨_,_,.inr rfl,hb,?_,fun e=>hn2 e.symm⟩,(hG.trans (hg.mono fun k _ e=>(Own.lt ho e).1)).trans (hw.mono fun k _ e=>by have e:k=b:=e;omega)⟩;simpa using hO
theorem padded_ok (s:Str) (hs:s.length≤64) (w:World):Ret Tryz.prog 87 #[S s] w fun v w'=>v=S (s++zeros (64 - s.length))∧Bel w w':=by
  refine ret_of_W Tryz.func87 rfl (Nat.le_of_ble_eq_true rfl) (res1 rfl) ?_;have hB:=Gr.refl (fun _=>False) w;refine W.seq (W.region (L.val (x_as (v:=S _) rfl) rfl ?_));refine L.nil (thn_n (W.seq (W.region (L.val (x_mv (v:=S _) rfl) rfl ?_))));refine L.val (x_mv (v:=S _) rfl) rfl ?_;refine L.val (x_len_str Tryz.underlying9 rfl) rfl ?_;refine L.val (x_sub rfl rfl (wr64 om_)) rfl ?_;refine L.ret (x_call koct1_en115 rfl) rfl ((by have:=repeat_ok (64 - s.length) om_ w;rwa [show ((64 - s.length:Nat):Int)=64 - (s.length:Int) by omega] at this)) ?_;rintro _ w7 ⟨rfl,hw⟩;have hB:=hB.carry hw;refine L.val (x_cat rfl rfl (by rw [zeros_len];omega)) rfl ?_;refine L.val (x_as (v:=S _) rfl) rfl ?_;refine L.nil (thn_n (W.ret (fin_mk (.inr rfl) ?_)));exact ⟨rfl,hB⟩
end Go.Gx
