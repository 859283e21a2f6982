/- In a region that draws and stores: what reads alone is taken first, by what holds all the time, or up to the first store. Conditions: none. -/
import Derived.Laws.IdiomStrings
import Derived.Laws.IdiomCopy
import Derived.Lib.BufferWrite
import Derived.Laws.Bits64b
import Derived.Shelf.Unicode.ValidAny
import Derived.Test.YtfbcfdhhgdmgkaaGreatDoorProg
import Derived.Shelf.LaysM
import Derived.Shelf.Strconv.Itoa2
import Derived.Shelf.Strconv.Itoa3
import Derived.Test.YtfbcfdhhgdmgkaaGreatDoorDbTake
import Derived.Test.YtfbcfdhhgdmgkaaGreatDoorDbFits
import Derived.Test.YtfbcfdhhgdmgkaaGreatDoorDbTm1
namespace Go.Gx
variable {P:Program} {ops:Array Oper} {Q:Exit→Act→World→Prop} {C0 C1:World→Prop}
def wpAnyD (P:Program) (ops:Array Oper) (C0 C1:World→Prop) (st:Nat) (Q:Exit→Act→World→Prop):Nat→Array Bool→Act→World→Prop
  | 0,listed,a,w=>C0 w∧(listed.getD st false=false→C1 w)∧Region.ready .any ops listed=[]∧Q .normal a w
  | f+1,listed,a,w=>C0 w∧(listed.getD st false=false→C1 w)∧(Region.ready .any ops listed=[]→Q .normal a w)∧∀ i∈Region.ready .any ops listed,wpOp P ops Q i (wpAnyD P ops C0 C1 st Q f (listed.setIfInBounds i true)) a w
theorem wpAnyD.any {st:Nat}:∀ (f:Nat) (listed:Array Bool) (a:Act) (w:World),wpAnyD P ops C0 C1 st Q f listed a w→wpAny P .any ops Q f listed a w
  | 0,_,_,_,h=>h.2.2
  | f+1,_,_,_,h=>⟨h.2.2.1,fun i hi=>wpOp_mono (fun _ _ h'=>wpAnyD.any f _ _ _ h') (h.2.2.2 i hi)⟩
theorem wpAnyD.here {st f:Nat} {listed:Array Bool} {a:Act} {w:World} (h:wpAnyD P ops C0 C1 st Q f listed a w):C0 w∧(listed.getD st false=false→C1 w):=by
  cases f <;> exact ⟨h.1,h.2.1⟩
theorem wpAnyD.take0 {i st:Nat} {oi:Oper} {v:Value} (hi:ops[i]? = some oi) (hsel:∀ (j:Nat) (o:Oper) cs b,ops[j]? = some o→o.op≠.select cs b)
    (hQ:∀ c a w,Q (.panic c) (a.put oi.dst v) w→Q (.panic c) a w) (hne:st≠i):
    ∀ (fuel:Nat) (listed:Array Bool) (a:Act) (w:World),
      (∀ j oj,ops[j]? = some oj→j≠i→listed.getD j true=false→(∀ e∈oj.after,Region.binds .any e=true→e.on≠i)→oi.apart ops oj=true)→
      i∈Region.ready .any ops listed→YF P ops C0 oi v a→
      wpAnyD P ops C0 C1 st Q fuel (listed.setIfInBounds i true) (a.put oi.dst v) w→wpAnyD P ops C0 C1 st Q (fuel+1) listed a w:=by
  intro fuel;induction fuel with
  | zero=>
    intro listed a w _ hr hy H;refine ⟨H.1,fun h=>H.2.1 (by rw [getD_set_ne false hne.symm];exact h),fun h=>(by rw [h] at hr;cases hr),fun j hj=>?_⟩;by_cases hji:j=i
    · subst hji;exact hy.take hi H.1 H
    · have:=ready_mono hj hji;rw [H.2.2.1] at this;cases this
  | succ fuel ih=>
    intro listed a w hfree hr hy H;have hun:=(mem_ready.1 hr).1;refine ⟨H.1,fun h=>H.2.1 (by rw [getD_set_ne false hne.symm];exact h),fun h=>(by rw [h] at hr;cases hr),fun j hj=>?_⟩;by_cases hji:j=i
    · subst hji;exact hy.take hi H.1 H
    · have h1:=H.2.2.2 j (ready_mono hj hji);obtain ⟨hjun,oj,hoj,hall⟩:=mem_ready.1 hj;have hnot:∀ e∈oj.after,Region.binds .any e=true→e.on≠i:=fun e he hb heq=>by
        have h1:=hall e he hb;rw [heq,unlisted hun] at h1;cases h1
      have h2:=wpOp_lateF hoj (hfree j oj hoj hji hjun hnot) (fun cs b=>hsel i oi cs b hi) (fun cs b=>hsel j oj cs b hoj) hQ hy h1;refine wpOp_mono (fun a' w' h3=>ih (listed.setIfInBounds j true) a' w' (fun k ok hk hki hu hno=>?_) (ready_mono hr (Ne.symm hji)) h3.1 ?_) h2
      · refine hfree k ok hk hki ?_ hno;by_cases hjk:j=k
        · subst hjk;exact hjun
        · rw [getD_set_ne true hjk] at hu;exact hu
      · rw [Array.setIfInBounds_comm _ _ hji];exact h3.2
section
variable {n st:Nat} {K:List Deferred→Env→World→Prop} {D:List Deferred} {E:Env} {w:World}
def LAD (P:Program) (n:Nat) (ops:Array Oper) (C0 C1:World→Prop) (st:Nat) (K:List Deferred→Env→World→Prop) (fuel:Nat) (listed:Array Bool) (D:List Deferred) (E:Env) (w:World):Prop:=
  ∀ a,Fr D n a E→wpAnyD P ops C0 C1 st (lift n (nrm K)) fuel listed a w
theorem W.drawD {id:Nat} {l:List Oper} {Q:Post} (R R1:Nat→Prop) (st:Nat) (hm:P.follows .mixedOrders=true)
    (h:∀ w1,Bel w w1→LAD P n l.toArray (Gr R w1) (Gr R1 w1) st (Q .normal) l.length (Array.replicate l.length false) D E w1):W P n (.region id l.toArray true) Q D E w:=by
  intro a ha;refine wp_mono (wp_region_any (Q:=lift n (nrm (Q .normal))) hm ?_) ?_
  · have:=(h _ (bel_drew _) a ha).any;simpa using this
  · rintro e a' w' ⟨he,E',hE,rfl,hq⟩;exact ⟨he,E',hE,hq⟩
theorem LAD.take0 {fuel:Nat} {listed:Array Bool} {i d:Nat} {op:Op} {t:TypeId} {p:String} {af:Array Edge} {v:Value}
    (ho:ops[i]? = some ⟨some d,op,t,p,af,none⟩) (hs:Region.noSelect ops=true) (hf:Region.free .any ops listed i=true) (hr:(Region.ready .any ops listed).contains i=true) (hne:Nat.beq st i=false)
    (hx:∀ w,C0 w→X P op t E w v w) (hd:Nat.blt d n=true) (k:LAD P n ops C0 C1 st K fuel (listed.setIfInBounds i true) D (upd E d v) w):LAD P n ops C0 C1 st K (fuel+1) listed D E w:=by
  intro a ha;refine wpAnyD.take0 ho (Region.noSelect_spec hs) ?_ (fun h=>by subst h;simp at hne) fuel listed a w (Region.free_spec ho hf) (by simpa using hr) (.inl ⟨by simp [Region.wanted],fun w hw=>?_⟩) (k _ (ha.put v hd))
  · rintro c a w ⟨_,E,_,h,_⟩;cases h
  · have:=hx w hw;unfold X at this;rw [execOp_bare,ha.eval];exact this
theorem LAD.done {listed:Array Bool} (hr:Region.ready .any ops listed=[]) (hl:listed.getD st false=true) (hC:C0 w) (h:K D E w):LAD P n ops C0 C1 st K 0 listed D E w:=
  fun _ ha=>⟨hC,fun h0=>(by rw [hl] at h0;cases h0),hr,lift_mk (by simp) ha ⟨rfl,h⟩⟩
def LADs (P:Program) (n:Nat) (ops:Array Oper) (C0 C1:World→Prop) (st:Nat) (K:List Deferred→Env→World→Prop) (fuel:Nat) (listed:Array Bool) (D:List Deferred) (E:Env) (w:World):List Nat→Prop
  | []=>True
  | i :: r=>(∃ o,ops[i]? = some o∧L P n ops (thn (LAD P n ops C0 C1 st K fuel (listed.setIfInBounds i true)) (nrm K)) [o] D E w)∧LADs P n ops C0 C1 st K fuel listed D E w r
theorem LAD.step {fuel:Nat} {listed:Array Bool} {rs:List Nat} (hC0:C0 w) (hC1:listed.getD st false=false→C1 w) (hr:Region.ready .any ops listed=rs) (hne:rs≠[])
    (h:LADs P n ops C0 C1 st K fuel listed D E w rs):LAD P n ops C0 C1 st K (fuel+1) listed D E w:=by
  intro a ha;refine ⟨hC0,hC1,fun h0=>absurd (hr.symm.trans h0) hne,fun j hj=>?_⟩;rw [hr] at hj;have key:∀ rs:List Nat,LADs P n ops C0 C1 st K fuel listed D E w rs→j∈rs→∃ o,ops[j]? = some o∧L P n ops (thn (LAD P n ops C0 C1 st K fuel (listed.setIfInBounds j true)) (nrm K)) [o] D E w:=by
    intro rs;induction rs with
    | nil=>intro _ hi;cases hi
    | cons k r ih=>
      intro hL hi;rcases List.mem_cons.1 hi with rfl | hi
      · exact hL.1
      · exact ih hL.2 hi
  obtain ⟨o,ho,hLo⟩:=key rs h hj;have h1:=hLo a ha;have hl:∀ e a w,lift n (thn (LAD P n ops C0 C1 st K fuel (listed.setIfInBounds j true)) (nrm K)) e a w→Exit.then (wpAnyD P ops C0 C1 st (lift n (nrm K)) fuel (listed.setIfInBounds j true)) (lift n (nrm K)) e a w:=by
    intro e a w ⟨h1,E',h2,h3⟩;cases e <;> simp only [thn,Exit.then] at h3 ⊢;case normal=>exact h3 a h2
    case outgrown=>exact absurd rfl h1
    all_goals exact ⟨by simp,E',h2,h3⟩
  unfold wpOp;rw [ho];simp only;unfold wpList at h1;split
  · rename_i hw
    rw [if_pos hw] at h1;rcases h1 with h1 | ⟨_,a',w',h1⟩
    · refine .inl ?_;unfold Oper.wp at h1 ⊢;generalize (execOp a.eval o).run P w=res at h1 ⊢;cases res with
      | ok x w'=>
        cases x <;> simp only [Oper.upon,wpList] at h1 ⊢ <;> try exact hl _ _ _ h1
        · refine h1.mono fun e w'' h=>?_
          cases e with
          | returned v=>exact hl _ _ _ h
          | panicked c=>exact hl _ _ _ h
          | outgrown=>obtain ⟨a',w',h⟩:=h;exact absurd rfl h.1
        · exact h1.mono fun v w'' h=>hl _ _ _ h
      | halt x w'=>cases x <;> simp only [Oper.upon] at h1 ⊢ <;> try exact hl _ _ _ h1
    · exact absurd rfl h1.1
  · rename_i hw;rw [if_neg hw] at h1;exact hl _ _ _ h1
end
theorem Gr.keepRowR {R:Nat→Prop} {a b:World} (h:Gr R a b) {bl o k:Nat} {vs:List Value} (hn:¬ R bl) (hl:vs.length=k) (hc:∀ j,j<k→a.cell? ⟨bl,o+j,none⟩=vs[j]?):∀ j,j<k→b.cell? ⟨bl,o+j,none⟩=vs[j]? := fun j hj=>by
  have hv:=List.getElem?_eq_getElem (l:=vs) (i:=j) om_;rw [hv];exact h.cell (by rw [hc j hj,hv]) hn
theorem Gr.keepR {R:Nat→Prop} {a b:World} (h:Gr R a b) {p:Addr} {v:Value} (hn:¬ R p.block) (hv:a.cell? p=some v):b.cell? p=some v:=h.cell hv hn
theorem Gr.intoR {R S:Nat→Prop} {a b c:World} (h:Gr R a b) (g:Gr S b c) (hk:∀ k,S k→R k):Gr R a c:=h.trans (g.mono fun j _ e=>hk j e)
theorem ShRow.avoid {A:Nat→Prop} {w:World} {b o:Nat} {row:Nat→List Value} {l:List Sh} (h:ShRow A w (some ⟨b,o,none⟩) row l) {i:Nat} (hi:i<l.length):¬ A b:=by
  obtain ⟨b',o',e,hn,-⟩:=h.at_ (by rintro rfl;simp at hi);simp only [Option.some.injEq,Addr.mk.injEq] at e;rw [e.1];exact hn
end Go.Gx
namespace Go.Gx
open Go.Proofs
def B8 (b:UInt8):Value:=.int .u8 (b.toNat:Int)
section
variable {P:Program} {E:Env} {w:World}
end
def BoxM (w:World) (b:Nat) (t:TypeId) (cs:List Value):Prop:=∃ n,w.heap[b]? = some (.cells cs.toArray t (n,n+1))∧cs.length≤n
section
variable {w w':World} {b:Nat} {t:TypeId} {cs:List Value}
theorem BoxM.lt (h:BoxM w b t cs):b<w.heap.size:=by
  obtain ⟨n,h,-⟩:=h;exact (Array.getElem?_eq_some_iff.1 h).1
theorem BoxM.carryR {R:Nat→Prop} (h:BoxM w b t cs) (g:Gr R w w') (hn:¬ R b):BoxM w' b t cs:=by
  obtain ⟨n,h1,h2⟩:=id h;exact ⟨n,by rw [g.block b h.lt hn];exact h1,h2⟩
theorem BoxM.carry (h:BoxM w b t cs) (g:Bel w w'):BoxM w' b t cs:=h.carryR g (fun f=>f)
theorem BoxM.cell (h:BoxM w b t cs) {i:Nat} {v:Value} (hv:cs[i]? = some v):w.cell? ⟨b,i,none⟩=some v:=by
  obtain ⟨n,h,-⟩:=h;simp [World.cell?,h,hv]
theorem BoxM.cell0 (h:BoxM w b t cs) {i:Nat} {v:Value} (hv:cs[i]? = some v):w.cell? ⟨b,0+i,none⟩=some v:=by rw [Nat.zero_add];exact h.cell hv
theorem BoxM.free (h:BoxM w b t cs) {i:Nat} (hi:i<cs.length):w.frozen? ⟨b,i,none⟩=false:=by
  obtain ⟨n,h,h2⟩:=h;simp only [World.frozen?,h];simp;omega
theorem BoxM.set (h:BoxM w b t cs) (i:Nat) (v:Value):BoxM (w.setCell ⟨b,i,none⟩ v) b t (cs.set i v):=by
  obtain ⟨n,h,h2⟩:=h;refine ⟨n,?_,by rw [List.length_set];exact h2⟩;simp [World.setCell,Array.getElem?_modify,h]
end
section
variable {P:Program} {n:Nat} {Q:Post} {D:List Deferred} {E:Env} {w:World}
theorem L.s2b {ops:Array Oper} {r:List Oper} {d:Nat} {x:Operand} {s t e ty:TypeId} {p:String} {af:Array Edge} {l:Str} (hs:P.underlying s=some .string) (ht:P.underlying t=some (.slice e)) (he:P.underlying e=some (.int .u8)) (hx:ev E x=S l) (hd:Nat.blt d n=true)
    (k:∀ w1 cap tl,BoxM w1 w.heap.size e (l.map B8++tl)→Bel w w1→w1.heap.size=w.heap.size+1→l.length≤cap→L P n ops Q r D (upd E d (.slice (some ⟨w.heap.size,0,none⟩) l.length cap)) w1):
    L P n ops Q (⟨some d,.convert s t x,ty,p,af,none⟩ :: r) D E w:=by
  have hrun:=run_bytes_of_string (P:=P) w s t e ⟨l.toArray⟩ hs ht he;have hsz:(⟨l.toArray⟩:ByteArray).size=l.length:=rfl;rw [hsz] at hrun;refine L.val (v:=.slice (some ⟨w.heap.size,0,none⟩) l.length (grownCap w l.length 0 e)) (w':=w.drew.alloc (.cells (bytesRow ⟨l.toArray⟩ (grownCap w l.length 0 e)) e ((bytesRow ⟨l.toArray⟩ (grownCap w l.length 0 e)).size,(bytesRow ⟨l.toArray⟩ (grownCap w l.length 0 e)).size+1))) ?_ hd
    (k _ (grownCap w l.length 0 e) (List.replicate (grownCap w l.length 0 e - l.length) (.int .u8 0)) ⟨(bytesRow ⟨l.toArray⟩ (grownCap w l.length 0 e)).size,?_,?_⟩ ((bel_drew _).trans (bel_alloc _ _)) (by simp) ?_)
  · unfold X;simp only [execOp,Sem.run_bind,hx,S,hrun];rfl
  · show (w.drew.heap.push _)[w.heap.size]? = _;have:w.drew.heap.size=w.heap.size:=rfl;rw [← this,Array.getElem?_push,if_pos rfl];have:(bytesRow ⟨l.toArray⟩ (grownCap w l.length 0 e))=(l.map B8++List.replicate (grownCap w l.length 0 e - l.length) (Value.int .u8 0)).toArray:=by
      unfold bytesRow;rw [hsz];apply Array.ext';simp only [Array.toList_append,Array.toList_map,Array.toList_replicate];rfl
    rw [this]
  · unfold bytesRow;rw [hsz];simp
  · exact grownCap_ge w _ _ _
end
end Go.Gx
namespace Go.Proofs
open Go.Shelf
def Tryz.lays196_ren:Go.Shelf.Ren:=⟨fun | 196=>72 | 259=>97 | n=>n,fun | 9=>9 | 4=>4 | 3=>3 | 5=>5 | 12=>12 | 119=>105 | 0=>0 | 46=>109 | 139=>108 | 138=>107 | 53=>116 | n=>n,fun | 3=>0 | 4=>1 | n=>n⟩
theorem Tryz.lays196:Go.Proofs.Lays.n196 Tryz.prog Tryz.lays196_ren:={
  mixed:=by kernel_rfl
  f196:=Tryz.func72.trans (congrArg some (by kernel_rfl))
  f259:=Tryz.func97.trans (congrArg some (by kernel_rfl))
  t0:=Tryz.underlying0
  a0:=Tryz.isAgg0
  z0:=Tryz.sizeOf0
  v0:=Tryz.zeroValue0
  t3:=Tryz.underlying3
  a3:=Tryz.isAgg3
  z3:=Tryz.sizeOf3
  v3:=Tryz.zeroValue3
  t4:=Tryz.underlying4
  a4:=Tryz.isAgg4
  z4:=Tryz.sizeOf4
  v4:=Tryz.zeroValue4
  t5:=Tryz.underlying5
  a5:=Tryz.isAgg5
  z5:=Tryz.sizeOf5
  v5:=Tryz.zeroValue5
  t9:=Tryz.underlying9
  a9:=Tryz.isAgg9
  z9:=Tryz.sizeOf9
  v9:=Tryz.zeroValue9
  t12:=Tryz.underlying12
  a12:=Tryz.isAgg12
  z12:=Tryz.sizeOf12
  v12:=Tryz.zeroValue12
  t46:=Tryz.underlying109
  a46:=Tryz.isAgg109
  z46:=Tryz.sizeOf109
  v46:=Tryz.zeroValue109
  t53:=Tryz.underlying116
  a53:=Tryz.isAgg116
  z53:=Tryz.sizeOf116
  v53:=Tryz.zeroValue116
  t119:=Tryz.underlying105
  a119:=Tryz.isAgg105
  z119:=Tryz.sizeOf105
  t138:=Tryz.underlying107
  a138:=Tryz.isAgg107
  z138:=Tryz.sizeOf107
  v138:=Tryz.zeroValue107
  t139:=Tryz.underlying108
  a139:=Tryz.isAgg108
  z139:=Tryz.sizeOf108
  v139:=Tryz.zeroValue108
  g3:=by kernel_rfl
  g4:=by kernel_rfl }
open Go.RowKit in
theorem Tryz.utf8_ValidString (s:ByteArray) (w:World) (hs:s.size≤9223372036854775807) (hT:Lib.Utf8Tabs (Tryz.lays196_ren.g 3) (Tryz.lays196_ren.g 4) w):
    Calls Tryz.prog 72 #[.string s] w fun e w'=>e=.returned (.bool (Lib.validD s.data.toList))∧Below w.heap.size w w':=Any.utf8_ValidString Tryz.lays196 s w hs hT
end Go.Proofs
namespace Go.Proofs
open Go.Shelf
def Tryz.laysM171_ren:Go.Shelf.Ren:=⟨fun | 171=>41 | 243=>62 | 246=>89 | 283=>109 | 284=>110 | 285=>111 | 286=>112 | 129=>129 | 317=>128 | 318=>130 | 319=>131 | 320=>132 | 337=>144 | 338=>145 | n=>n,fun | 3=>3 | 9=>9 | 2=>2 | 4=>4 | 171=>115 | 0=>0 | 53=>116 | 37=>72 | 5=>5 | 173=>119 | 212=>134 | 51=>135 | 20=>20 | 213=>136 | 46=>109 | 232=>154 | 233=>155 | n=>n,fun | 17=>2 | 18=>4 | 19=>5 | n=>n⟩
theorem Tryz.laysM171:Go.Proofs.LaysM.n171 Tryz.prog Tryz.laysM171_ren:={
  mixed:=by kernel_rfl
  f129:=Tryz.func129.trans (congrArg some (by kernel_rfl))
  f171:=Tryz.func41.trans (congrArg some (by kernel_rfl))
  f243:=Tryz.func62.trans (congrArg some (by kernel_rfl))
  f246:=Tryz.func89.trans (congrArg some (by kernel_rfl))
  f283:=Tryz.func109.trans (congrArg some (by kernel_rfl))
  f284:=Tryz.func110.trans (congrArg some (by kernel_rfl))
  f285:=Tryz.func111.trans (congrArg some (by kernel_rfl))
  f286:=Tryz.func112.trans (congrArg some (by kernel_rfl))
  f317:=Tryz.func128.trans (congrArg some (by kernel_rfl))
  f318:=Tryz.func130.trans (congrArg some (by kernel_rfl))
  f319:=Tryz.func131.trans (congrArg some (by kernel_rfl))
  f320:=Tryz.func132.trans (congrArg some (by kernel_rfl))
  f337:=Tryz.func144.trans (congrArg some (by kernel_rfl))
  f338:=Tryz.func145.trans (congrArg some (by kernel_rfl))
  t0:=Tryz.underlying0
  a0:=Tryz.isAgg0
  z0:=Tryz.sizeOf0
  v0:=Tryz.zeroValue0
  t2:=Tryz.underlying2
  a2:=Tryz.isAgg2
  z2:=Tryz.sizeOf2
  v2:=Tryz.zeroValue2
  t3:=Tryz.underlying3
  a3:=Tryz.isAgg3
  z3:=Tryz.sizeOf3
  v3:=Tryz.zeroValue3
  t4:=Tryz.underlying4
  a4:=Tryz.isAgg4
  z4:=Tryz.sizeOf4
  v4:=Tryz.zeroValue4
  t5:=Tryz.underlying5
  a5:=Tryz.isAgg5
  z5:=Tryz.sizeOf5
  v5:=Tryz.zeroValue5
  t9:=Tryz.underlying9
  a9:=Tryz.isAgg9
  z9:=Tryz.sizeOf9
  v9:=Tryz.zeroValue9
  t20:=Tryz.underlying20
  a20:=Tryz.isAgg20
  z20:=Tryz.sizeOf20
  v20:=Tryz.zeroValue20
  t37:=Tryz.underlying72
  a37:=Tryz.isAgg72
  z37:=Tryz.sizeOf72
  v37:=Tryz.zeroValue72
  t46:=Tryz.underlying109
  a46:=Tryz.isAgg109
  z46:=Tryz.sizeOf109
  v46:=Tryz.zeroValue109
  t51:=Tryz.underlying135
  a51:=Tryz.isAgg135
  z51:=Tryz.sizeOf135
  v51:=Tryz.zeroValue135
  t53:=Tryz.underlying116
  a53:=Tryz.isAgg116
  z53:=Tryz.sizeOf116
  v53:=Tryz.zeroValue116
  t171:=Tryz.underlying115
  a171:=Tryz.isAgg115
  z171:=Tryz.sizeOf115
  v171:=Tryz.zeroValue115
  t173:=Tryz.underlying119
  a173:=Tryz.isAgg119
  z173:=Tryz.sizeOf119
  v173:=Tryz.zeroValue119
  t212:=Tryz.underlying134
  a212:=Tryz.isAgg134
  z212:=Tryz.sizeOf134
  v212:=Tryz.zeroValue134
  t213:=Tryz.underlying136
  a213:=Tryz.isAgg136
  z213:=Tryz.sizeOf136
  t232:=Tryz.underlying154
  a232:=Tryz.isAgg154
  z232:=Tryz.sizeOf154
  v232:=Tryz.zeroValue154
  t233:=Tryz.underlying155
  a233:=Tryz.isAgg155
  z233:=Tryz.sizeOf155
  v233:=Tryz.zeroValue155
  g17:=by kernel_rfl
  g18:=by kernel_rfl
  g19:=by kernel_rfl
  i0:=by kernel_rfl
  i2:=by kernel_rfl
  i3:=by kernel_rfl
  i4:=by kernel_rfl
  i5:=by kernel_rfl
  i9:=by kernel_rfl
  i20:=by kernel_rfl
  i37:=by kernel_rfl
  i46:=by kernel_rfl
  i51:=by kernel_rfl
  i53:=by kernel_rfl
  i171:=by kernel_rfl
  i173:=by kernel_rfl
  i212:=by kernel_rfl
  i232:=by kernel_rfl
  i233:=by kernel_rfl
  m17:=by kernel_rfl
  m18:=by kernel_rfl
  m19:=by kernel_rfl }
open Go.RowKit Go.Sort Go.Lib in
theorem Tryz.strconv_Itoa (n:Int) (h0:-9223372036854775808≤n) (h1:n≤9223372036854775807) (w:World) (htab:Lib.TabIs Tryz.prog w "internal/strconv.uint64pow10" .u64 Lib.pow10Tab):
    Calls Tryz.prog 41 #[.int .i64 n] w fun e w'=>e=.returned (.string ⟨(Lib.itoa n).toArray⟩)∧∃ k os,w'=grow (w.drewN k) os:=Any.strconv_Itoa Tryz.laysM171 n h0 h1 w htab
end Go.Proofs
namespace Go.Gx
open Go.Proofs Go.Sort
theorem ktm4_ag45:aggT Tryz.prog 45 5=true:=by kernel_rfl
theorem ktm4_en101:Go.Proofs.Enters Tryz.prog 101:=Go.Proofs.enters_of Tryz.func101 kr_ rfl
theorem ktm4_en48:Go.Proofs.Enters Tryz.prog 48:=Go.Proofs.enters_of Tryz.func48 kr_ rfl
theorem ktm4_en51:Go.Proofs.Enters Tryz.prog 51:=Go.Proofs.enters_of Tryz.func51 kr_ rfl
theorem ktm4_en53:Go.Proofs.Enters Tryz.prog 53:=Go.Proofs.enters_of Tryz.func53 kr_ rfl
theorem ktm4_en70:Go.Proofs.Enters Tryz.prog 70:=Go.Proofs.enters_of Tryz.func70 kr_ rfl
theorem ktm4_en71:Go.Proofs.Enters Tryz.prog 71:=Go.Proofs.enters_of Tryz.func71 kr_ rfl
theorem ktm4_en72:Go.Proofs.Enters Tryz.prog 72:=Go.Proofs.enters_of Tryz.func72 kr_ rfl
theorem ktm4_en76:Go.Proofs.Enters Tryz.prog 76:=Go.Proofs.enters_of Tryz.func76 kr_ rfl
theorem ktm4_en77:Go.Proofs.Enters Tryz.prog 77:=Go.Proofs.enters_of Tryz.func77 kr_ rfl
theorem ktm4_en78:Go.Proofs.Enters Tryz.prog 78:=Go.Proofs.enters_of Tryz.func78 kr_ rfl
theorem ktm4_fo45_0:fieldOff Tryz.prog 45 0=some 0:=by kernel_rfl
theorem ktm4_fo45_4:fieldOff Tryz.prog 45 4=some 4:=by kernel_rfl
theorem ktm4_oc23:oneCellT Tryz.prog 23=true:=by kernel_rfl
theorem ktm4_oc3:oneCellT Tryz.prog 3=true:=by kernel_rfl
theorem ktm4_oc5:oneCellT Tryz.prog 5=true:=by kernel_rfl
theorem ktm4_sz5:(Tryz.prog.info? 5).map (·.size)=some 1:=by kernel_rfl
def Tabs (w:World):Prop:=Lib.Utf8Tabs (Tryz.lays196_ren.g 3) (Tryz.lays196_ren.g 4) w∧(∃ g,Tryz.prog.globalNamed "internal/strconv.uint64pow10" = some g∧g<w.heap.size)∧Lib.TabIs Tryz.prog w "internal/strconv.uint64pow10" .u64 Lib.pow10Tab
theorem below_bel {a b:World} (h:Bel a b):RowKit.Below a.heap.size a b:=⟨h.os,h.tape,h.output,h.size,fun k hk=>h.block k hk (fun f=>f)⟩
theorem Tabs.carry {w w':World} (h:Tabs w) (g:Bel w w'):Tabs w':=by
  obtain ⟨h1,⟨k,h2,h3⟩,h4⟩:=h;refine ⟨Utf8Tabs_below h1 (below_bel g),⟨k,h2,Nat.lt_of_lt_of_le h3 g.size⟩,?_⟩;unfold Lib.TabIs World.var? at h4 ⊢;rw [h2] at h4 ⊢;have e:w'.heap[k]? = w.heap[k]? := g.block k h3 (fun f=>f);simp only [Option.bind_some,e] at h4 ⊢;exact h4
theorem allL_all {f:Sh→Bool}:∀ l:List Sh,allL f l=l.all fun x=>x.allB f
  | []=>by rw [allL];rfl
  | x :: l=>by rw [allL,allL_all l];rfl
def notOp (s:Sh):Bool:=!decide (s.kind=10)
theorem open_tm:∀ (N:Nat) (s:Sh),SizeOf.sizeOf s<N→∀ (A:Nat→Prop) (cs:List Value) (w:World),ShC A w cs s→
    Ret Tryz.prog 71 #[.agg cs.toArray] w fun v w'=>v=.bool (s.allB notOp)∧Bel w w':=by
  intro N;induction N with
  | zero=>intro s h;omega
  | succ N ih=>
    intro s hN A cs w hs;obtain ⟨vn,vp,rfl,hn,hp,hof,hnm⟩:=hs.inv;obtain ⟨p,cap,row,rfl,-⟩:=id hp;refine ret_of_W Tryz.func71 rfl (Nat.le_of_ble_eq_true rfl) (res1 rfl) ?_;have hB:=Gr.refl (fun _=>False) w;refine W.seq (W.region (L.box (cs:=_) rfl rfl (fun w1 bx1 hw hz1=>?_)));have hB:=hB.carry hw;have hp:=hp.carry hw;refine L.val (x_as (v:=.bool _) rfl) rfl ?_;refine L.nil (thn_n (W.seq (W.region (L.val (x_fa ktm4_fo45_0 rfl) rfl ?_))));refine L.val (x_ld (v:=.int _ _) ktm4_oc3 rfl (bx1.cell0 rfl)) rfl ?_;refine L.val (x_neq rfl rfl) rfl ?_;refine L.val (x_mv (v:=.bool _) rfl) rfl ?_;refine' L.group 3 7 9 9 6 true rfl ?_ ?_ ?_;rotate_left 1
    ·intro g6 hg6;have h6:=dne_t g6;refine L.gyes' (dj:=6) (b:=_) rfl rfl g6 ?_;refine L.val (x_fa ktm4_fo45_4 rfl) rfl ?_;refine L.gyes' (dj:=6) (b:=_) rfl rfl g6 ?_;refine L.val (x_ld (v:=.slice _ _ _) ktm4_oc23 rfl (bx1.cell0 rfl)) rfl ?_;refine L.gyes' (dj:=6) (b:=_) rfl rfl g6 ?_;refine L.ret (x_call ktm4_en48 rfl) rfl (eachH_ok 71 [] (fun x=>x.allB notOp) ktm4_en71 A _ s.parts _ hp (fun i hi w1 cs h1 hx=>ih _ (by have:=Sh.part_lt hi;omega) A cs w1 hx)) ?_;rintro _ w9 ⟨rfl,hw⟩;have hB:=hB.carry hw;have hp:=hp.carry hw;have bx1:=bx1.carry hw;have hg6:=hg6.carry hw;refine L.nil (thn_n ⟨rfl,?_,?_,fun _=>rfl⟩)
     ·exact hg6
     ·repeat (first | exact jeq.refl _ _ _ | refine jeq.upd rfl ?_ | refine jeq.jk rfl rfl ?_)
    ·intro g6;(iterate 3 refine L.gno (dj:=6) (b:=_) rfl rfl g6 rfl ?_);refine L.nil (thn_n ⟨rfl,Gr.refl _ _,?_⟩);refine ⟨?_,fun h=>h.elim⟩;repeat (first | exact jeq.refl _ _ _ | refine jeq.upd rfl ?_ | refine jeq.jk rfl rfl ?_)
    intro J6 w6 hw j6;have hB:=hB.carry hw;have hp:=hp.carry hw;have bx1:=bx1.carry hw;refine L.val (x_and rfl j6) rfl ?_;refine L.val (x_as (v:=.bool _) rfl) rfl ?_;refine L.nil (thn_n (W.ret (fin_mk (.inr rfl) ?_)));exact ⟨vb (by rw [Sh.allB_eq,allL_all];simp [notOp]),hB⟩
def typedS (s:Sh):Bool:=decide (checkS s=0) && s.allB notOp
theorem typed_tm (A:Nat→Prop) (s:Sh) (cs:List Value) (w:World) (hs:ShC A w cs s):
    Ret Tryz.prog 49 #[.agg cs.toArray] w fun v w'=>v=.bool (typedS s)∧Bel w w':=by
  have hlen:=hs.len;refine ret_of_W Tryz.func49 rfl (Nat.le_of_ble_eq_true rfl) (res1 rfl) ?_;have hB:=Gr.refl (fun _=>False) w;refine W.seq (W.region (L.box (cs:=cs) rfl rfl (fun w1 bx1 hw hz1=>?_)));have hB:=hB.carry hw;have hs:=hs.carry hw;refine L.val (x_as (v:=.bool _) rfl) rfl ?_;refine L.nil (thn_n (W.seq (W.region (L.val (x_ldn (vs:=cs) ktm4_ag45 rfl hlen (bx1.row hlen)) rfl ?_))));refine L.ret (x_call ktm4_en70 rfl) rfl (checkL A s _ _ hs) ?_;rintro _ w4 ⟨rfl,hw⟩;have hB:=hB.carry hw;have hs:=hs.carry hw;have bx1:=bx1.carry hw;refine L.val (x_eql rfl rfl) rfl ?_;refine L.val (x_mv (v:=.bool _) rfl) rfl ?_;refine' L.group 2 7 8 8 6 true rfl ?_ ?_ ?_;rotate_left 1
  ·intro g6 hg6;have h6:=of_decide_eq_true g6;refine L.gyes' (dj:=6) (b:=_) rfl rfl g6 ?_;refine L.val (x_ldn (vs:=cs) ktm4_ag45 rfl hlen (bx1.row hlen)) rfl ?_;refine L.gyes' (dj:=6) (b:=_) rfl rfl g6 ?_;refine L.ret (x_call ktm4_en71 rfl) rfl (open_tm _ s (Nat.lt_succ_self _) A cs _ hs) ?_;rintro _ w8 ⟨rfl,hw⟩;have hB:=hB.carry hw;have hs:=hs.carry hw;have bx1:=bx1.carry hw;have hg6:=hg6.carry hw;refine L.nil (thn_n ⟨rfl,?_,?_,fun _=>rfl⟩)
   ·exact hg6
   ·repeat (first | exact jeq.refl _ _ _ | refine jeq.upd rfl ?_ | refine jeq.jk rfl rfl ?_)
  ·intro g6;refine L.gno (dj:=6) (b:=_) rfl rfl g6 rfl ?_;refine L.gno (dj:=6) (b:=_) rfl rfl g6 rfl ?_;refine L.nil (thn_n ⟨rfl,Gr.refl _ _,?_⟩);refine ⟨?_,fun h=>h.elim⟩;repeat (first | exact jeq.refl _ _ _ | refine jeq.upd rfl ?_ | refine jeq.jk rfl rfl ?_)
  intro J6 w6 hw j6;have hB:=hB.carry hw;have hs:=hs.carry hw;have bx1:=bx1.carry hw;refine L.val (x_and rfl j6) rfl ?_;refine L.val (x_as (v:=.bool _) rfl) rfl ?_;refine L.nil (thn_n (W.ret (fin_mk (.inr rfl) ?_)));exact ⟨vb rfl,hB⟩
def quotB (c:UInt8):Bool:=!(decide ((c.toNat:Int)<32) && !decide ((c.toNat:Int)=10) && !decide ((c.toNat:Int)=9))
def quotS (s:Str):Bool:=s.all quotB && Lib.validD s
theorem valid_ok (s:Str) (w:World) (hs:s.length≤9223372036854775807) (hT:Tabs w):Ret Tryz.prog 72 #[S s] w fun v w'=>v=.bool (Lib.validD s)∧Bel w w':=
  Calls.mono (Tryz.utf8_ValidString ⟨s.toArray⟩ w hs hT.1) fun _ _ ⟨he,hw⟩=>⟨_,he,rfl,bel_of hw⟩
theorem quotable_ok (s:Str) (w:World) (hs:s.length≤9223372036854775807) (hT:Tabs w):Ret Tryz.prog 50 #[S s] w fun v w'=>v=.bool (quotS s)∧Bel w w':=by
  refine ret_of_W Tryz.func50 rfl (Nat.le_of_ble_eq_true rfl) (res1 rfl) ?_;have hB:=Gr.refl (fun _=>False) w;refine W.seq (W.region (L.val (x_as (v:=.bool _) rfl) rfl ?_));refine L.nil (thn_n (W.seq (W.seq (W.region (L.val (x_mv (v:=S _) rfl) rfl ?_)))));refine L.s2b Tryz.underlying9 Tryz.underlying72 Tryz.underlying5 rfl rfl (fun w6 cap tl bx6 hw hz6 hcap=>?_);have hB:=hB.carry hw;refine L.val (x_len_slice Tryz.underlying72 rfl) rfl ?_;refine L.val (x_mv (v:=.int _ _) rfl) rfl ?_;refine L.nil (thn_n (W.block (W.loop (fun m' E w'=>∃ (j:Nat),m'=s.length - j∧E 0=S s∧E 6=.slice (some ⟨w.heap.size,0,none⟩) s.length cap∧E 7=.int .i64 (s.length:Nat)∧E 8=.int .i64 (j:Nat)∧(j≤s.length)∧(Bel w w')∧(BoxM w' w.heap.size 5 (s.map B8++tl))∧((s.take j).all quotB=true)) (s.length) ?_ ?_)))
  ·exact ⟨0,by omega,vi_,vi_,vi_,vi_,ao_,ao_,ao_,(by rfl)⟩
  ·rintro _ E wL9 ⟨j,em,e0,e6,e7,e8,hj,hB,bx6,ha⟩;rw [upd_self e0,upd_self e6,upd_self e7,upd_self e8];refine W.seq (W.region (L.val (x_lss rfl rfl) rfl ?_));refine L.nil (thn_n (W.seq (W.cond (b:=_) rfl (fun g9=>?_) (fun g9=>?_))))
   ·have h9:=of_decide_eq_true g9;have hlt:j<s.length:=by omega
    have hget:(s.map B8++tl)[j]? = some (B8 (s.getD j 0)):=by
      rw [List.getElem?_append_left (by simpa using hlt),List.getElem?_map,List.getElem?_eq_getElem hlt,List.getD_eq_getElem?_getD,List.getElem?_eq_getElem hlt];rfl
    have hbt:=(s.getD j 0).toNat_lt;refine W.skip (thn_n (W.seq (W.block (W.seq (W.region (L.val (x_ia1 (j:=j) Tryz.underlying72 ktm4_sz5 rfl rfl om_ om_) rfl ?_))))));refine L.val (x_ld (v:=.int _ _) ktm4_oc5 rfl (bx6.cell0 hget)) rfl ?_;refine L.val (x_as (v:=.int _ _) rfl) rfl ?_;refine L.nil (thn_n (W.seq (W.region (L.val (x_mv (v:=.int _ _) rfl) rfl ?_))));refine L.val (x_lss rfl rfl) rfl ?_;refine L.val (x_mv (v:=.bool _) rfl) rfl ?_;refine' L.group0 2 15 16 16 14 true rfl ?_ ?_ ?_;rotate_left 1
    ·intro g14;have h14:=of_decide_eq_true g14;refine L.gyes' (dj:=14) (b:=_) rfl rfl g14 ?_;refine L.val (x_mv (v:=.int _ _) rfl) rfl ?_;refine L.gyes' (dj:=14) (b:=_) rfl rfl g14 ?_;refine L.val (x_neq rfl rfl) rfl ?_;refine L.nil (thn_n ⟨rfl,rfl,?_,rfl⟩);repeat (first | exact jeq.refl _ _ _ | refine jeq.upd rfl ?_ | refine jeq.jk rfl rfl ?_)
    ·intro g14;refine L.gno (dj:=14) (b:=_) rfl rfl g14 rfl ?_;refine L.gno (dj:=14) (b:=_) rfl rfl g14 rfl ?_;refine L.nil (thn_n ⟨rfl,rfl,?_⟩);repeat (first | exact jeq.refl _ _ _ | refine jeq.upd rfl ?_ | refine jeq.jk rfl rfl ?_)
    intro J14 j14;refine L.val (x_and rfl j14) rfl ?_;refine L.val (x_mv (v:=.bool _) rfl) rfl ?_;refine' L.group0 2 19 20 20 18 true rfl ?_ ?_ ?_;rotate_left 1
    ·intro g18;have h18:=g18;refine L.gyes' (dj:=18) (b:=_) rfl rfl g18 ?_;refine L.val (x_mv (v:=.int _ _) rfl) rfl ?_;refine L.gyes' (dj:=18) (b:=_) rfl rfl g18 ?_;refine L.val (x_neq rfl rfl) rfl ?_;refine L.nil (thn_n ⟨rfl,rfl,?_,rfl⟩);repeat (first | exact jeq.refl _ _ _ | refine jeq.upd rfl ?_ | refine jeq.jk rfl rfl ?_)
    ·intro g18;refine L.gno (dj:=18) (b:=_) rfl rfl g18 rfl ?_;refine L.gno (dj:=18) (b:=_) rfl rfl g18 rfl ?_;refine L.nil (thn_n ⟨rfl,rfl,?_⟩);repeat (first | exact jeq.refl _ _ _ | refine jeq.upd rfl ?_ | refine jeq.jk rfl rfl ?_)
    intro J18 j18;refine L.val (x_and rfl j18) rfl ?_;refine L.nil (thn_n (W.cond (b:=_) rfl (fun g21=>?_) (fun g21=>?_)))
    ·have h21:=g21;have hq:quotB (s.getD j 0)=false:=by
       unfold quotB;rw [g21];rfl
     refine W.seq (W.region (L.val (x_as (v:=.bool _) rfl) rfl ?_));refine L.nil (thn_n (W.ret (blk_r (thn_r (thn_r (blk_r (thn_r (fin_mk (.inr rfl) ?_))))))));exact ⟨vb (by
       have:s.all quotB=false:=by rw [List.all_eq_false];exact ⟨s.getD j 0,by rw [List.getD_eq_getElem?_getD,List.getElem?_eq_getElem hlt];exact List.getElem_mem _,by rw [hq];simp⟩
       unfold quotS;rw [this];rfl),hB⟩
    ·have h21:=g21;have hq:quotB (s.getD j 0)=true:=by
       unfold quotB;rw [g21];rfl
     refine W.skip (blk_n (thn_n (W.region (L.val (x_add rfl rfl (wr64 om_)) rfl ?_))));refine L.val (x_mv (v:=.int _ _) rfl) rfl ?_;refine L.nil (thn_n ⟨rfl,?_⟩);refine ⟨_,?_,j+1,rfl,vi_,vi_,vi_,vi_,ao_,ao_,ao_,(by rw [take_snoc (d:=0) hlt,List.all_append,ha];show (true && (quotB (s.getD j 0) && true))=true;rw [hq];rfl)⟩;omega
   ·have h9:=dlt_f g9;have hjj:j=s.length:=by omega
    rw [hjj,List.take_length] at ha;refine W.exit (thn_x (thn_x (blk_hit ?_)));refine thn_n (W.seq (W.region (L.val (x_mv (v:=S _) rfl) rfl ?_)));refine L.ret (x_call ktm4_en72 rfl) rfl (valid_ok s _ hs (hT.carry hB)) ?_;rintro _ w24 ⟨rfl,hw⟩;have hB:=hB.carry hw;have bx6:=bx6.carry hw;refine L.val (x_as (v:=.bool _) rfl) rfl ?_;refine L.nil (thn_n (W.ret (fin_mk (.inr rfl) ?_)));exact ⟨vb (by unfold quotS;rw [ha];rfl),hB⟩
theorem compact_newB (base:Nat) (w:World) (v:Value) (ss:List Str) (hl:ss.length≤100000000000) (h:SortedNew base w v ss):Ret Tryz.prog 78 #[v] w fun r w'=>∃ p m c,r=.slice p m c∧(m=ss.length↔ss.Nodup)∧Gr (fun k=>base≤k) w w':=by
  rcases h with ⟨rfl,rfl⟩ | ⟨b,cap,tl,d,h1,h2,h3,rfl,h5,h6,h7,h8⟩
  · exact (compact_nil 0 w).mono fun r w' ⟨a,g⟩=>⟨_,_,_,a,by simp,g.mono fun _ _ f=>f.elim⟩
  · refine (compact_ok b 0 cap ss.length _ [] tl d w h5 h6 h2 h3 om_).mono ?_;rintro r w' ⟨p,m,c,rfl,hm,g⟩;exact ⟨p,m,c,rfl,hm.trans ((noadj_nodup h6 h8.1).trans (perm_nodup h7)),g.mono fun k _ e=>by have e:k=b:=e;omega⟩
def apartS (l:List Str):Bool:=l.all nameS && nodup l
theorem apart_ok (A0:Nat→Prop) (v:Value) (l:List Str) (w:World) (h0:StrsAt A0 w v l) (hl:l.length≤100000000000):
    Ret Tryz.prog 52 #[v] w fun r w'=>r=.bool (apartS l)∧Bel w w':=by
  obtain ⟨A,h,hU⟩:∃ A:Nat→Prop,StrsAt A w v l∧(∀ k,w.heap.size≤k→A k):=⟨_,h0.up,fun _=>.inr⟩;obtain ⟨q,c,rfl,-⟩:=id h;have hx:=h.short;refine ret_of_W Tryz.func52 rfl (Nat.le_of_ble_eq_true rfl) (res1 rfl) ?_;have hB:=Gr.refl (fun _=>False) w;refine W.seq (W.region (L.val (x_as (v:=.bool _) rfl) rfl ?_));refine L.nil (thn_n (W.seq (W.region (L.val (x_mv (v:=.slice _ _ _) rfl) rfl ?_))));refine L.ret (x_call ktm4_en77 rfl) rfl (values_ok _ _ _ _) ?_;rintro _ w5 ⟨rfl,bx5,hw⟩;have hB:=hB.carry hw;have h:=h.carry hw;obtain ⟨base,hbase,hbl⟩:∃ base,base=w5.heap.size∧w.heap.size≤base:=⟨_,rfl,hB.size⟩;refine L.ret (x_call ktm4_en76 rfl) rfl (sorted_ok _ _ l _ ktm4_en101 hl (fun _ h=>List.Perm.of_eq h) (vals_seq A _ _ _ l _ (fun k hk=>hU k (by have:=hB.size;omega)) bx5.lt (bx5.cell (i:=0) rfl) h (fun k hk=>hU k (by have:=hB.size;omega)))) ?_;rintro v6 w6 ⟨hN,hw⟩;have hB:=hB.carry hw;have h:=h.carry hw;rw [← hbase] at hN;refine L.val (x_as (v:=_) rfl) rfl ?_;refine L.nil (thn_n (W.seq (W.region (L.val (x_mv (v:=.slice _ _ _) rfl) rfl ?_))));refine L.ret (x_call ktm4_en53 rfl) rfl (eachS_ok 51 [] nameS ktm4_en51 A _ l _ h (fun i hi w1 h1=>nameL _ (hx _ (by rw [List.getD_eq_getElem?_getD,List.getElem?_eq_getElem hi];exact List.getElem_mem _)) _)) ?_;rintro _ w8 ⟨rfl,hw⟩;have hB:=hB.carry hw;have h:=h.carry hw;have hN:=hN.carry hw;refine L.val (x_mv (v:=.bool _) rfl) rfl ?_;refine L.splitat (dj:=9) (b:=_) rfl (fun g9=>?_) (fun g9=>?_)
  ·have h9:=g9;refine L.gyes' (dj:=9) (b:=_) rfl rfl g9 ?_;refine L.val (x_mv (v:=_) rfl) rfl ?_;refine L.gyes' (dj:=9) (b:=_) rfl rfl g9 ?_;refine L.ret (x_call ktm4_en78 rfl) rfl (compact_newB base _ _ l hl hN) ?_;rintro _ w11 ⟨p11,m11,c11,rfl,hm,hg⟩;have hB:=hB.step hg (fun i hi=>by omega);refine L.gyes' (dj:=9) (b:=_) rfl rfl g9 ?_;refine L.val (x_len_slice Tryz.underlying22 rfl) rfl ?_;refine L.gyes' (dj:=9) (b:=_) rfl rfl g9 ?_;refine L.val (x_mv (v:=.slice _ _ _) rfl) rfl ?_;refine L.gyes' (dj:=9) (b:=_) rfl rfl g9 ?_;refine L.val (x_len_slice Tryz.underlying22 rfl) rfl ?_;refine L.gyes' (dj:=9) (b:=_) rfl rfl g9 ?_;refine L.val (x_eql rfl rfl) rfl ?_;refine L.val (x_pick_t (v:=.bool _) (congrArg Value.bool g9) rfl) rfl ?_;refine L.val (x_as (v:=.bool _) rfl) rfl ?_;refine L.nil (thn_n (W.ret (fin_mk (.inr rfl) ?_)));exact ⟨vb (by first | (unfold apartS;rw [g9,Bool.false_and];done) | (unfold apartS;rw [g9,Bool.true_and,Bool.eq_iff_iff,nodup_iff,← hm];simp;omega)),hB⟩
  ·have h9:=g9;(iterate 6 refine L.gno (dj:=9) (b:=_) rfl rfl g9 rfl ?_);refine L.val (x_pick_f (v:=.bool _) (congrArg Value.bool g9) rfl) rfl ?_;refine L.val (x_as (v:=.bool _) rfl) rfl ?_;refine L.nil (thn_n (W.ret (fin_mk (.inr rfl) ?_)));exact ⟨vb (by first | (unfold apartS;rw [g9,Bool.false_and];done) | (unfold apartS;rw [g9,Bool.true_and,Bool.eq_iff_iff,nodup_iff,← hm];simp;omega)),hB⟩
end Go.Gx
