/- A layer of rules over the kit's walk: a frame is told by a function from slots to values, and each operation by one equation. Conditions: none. -/
import Derived.WalkKit
import Derived.WalkSpells
import Derived.WalkLawsBesides
import Derived.Deep.Quiet
import Derived.Shelf.Abstract
import Derived.KernelRfl
namespace Go.Gx
theorem kr_ {α : Type} {a b:α} (h:a=b:=by kernel_rfl):a=b:=h
theorem om_ {p:Prop} (h:p:=by omega):p:=h
theorem ao_ {p:Prop} (h:p:=by first | assumption | omega | rfl):p:=h
abbrev Env:=Nat→Value
def upd (E:Env) (k:Nat) (v:Value):Env:=fun t=>bif Nat.beq t k then v else E t
def ev (E:Env):Operand→Value
  | .tmp t=>E t
  | .const v=>v
  | .global g=>.pointer (some ⟨g,0,none⟩)
  | .func f=>.func (.func f) #[] #[]
theorem upd_same (E:Env) (k:Nat) (v:Value):upd E k v k=v:=by simp [upd]
theorem upd_ne (E:Env) {k t:Nat} (v:Value) (h:t≠k):upd E k v t=E t:=by
  have:Nat.beq t k=false:=by
    cases hb:Nat.beq t k
    · rfl
    · exact absurd (Nat.eq_of_beq_eq_true hb) h
  simp [upd,this]
theorem upd_self {E:Env} {k:Nat} {v:Value} (h:E k=v):E=upd E k v:=by
  funext t;by_cases ht:t=k
  · subst ht;rw [upd_same,h]
  · rw [upd_ne _ _ ht]
structure Fr (D:List Deferred) (n:Nat) (a:Act) (E:Env):Prop where
  defers:a.defers=D
  size:a.tmps.size=n
  get:∀ t,a.tmps.getD t undef=E t
theorem Fr.eval {D n a E} (h:Fr D n a E):a.eval=ev E:=by
  funext x;cases x <;> simp only [Act.eval,ev,h.get]
theorem Fr.put {D n a E} (h:Fr D n a E) {d:Nat} (v:Value) (hd:Nat.blt d n=true):Fr D n (a.put (some d) v) (upd E d v):=by
  have hd':d<n:=by simpa [Nat.blt_eq] using hd
  refine ⟨h.defers,by simp [Act.put,h.size],fun t=>?_⟩;have hg:=h.get t;by_cases ht:t=d
  · subst ht;rw [upd_same];simp only [Act.put,Array.getD_eq_getD_getElem?];rw [Array.getElem?_setIfInBounds_self_of_lt (by rw [h.size];exact hd')];rfl
  · rw [upd_ne _ _ ht,← hg];simp only [Act.put,Array.getD_eq_getD_getElem?];rw [Array.getElem?_setIfInBounds_ne om_]
theorem Fr.putn {D n a E} (h:Fr D n a E) (v:Value):Fr D n (a.put none v) E:=h
abbrev Post:=Exit→List Deferred→Env→World→Prop
def lift (n:Nat) (Q:Post):Exit→Act→World→Prop:=fun e a w=>(e≠.outgrown)∧∃ E,Fr a.defers n a E∧Q e a.defers E w
def W (P:Program) (n:Nat) (c:Code) (Q:Post) (D:List Deferred) (E:Env) (w:World):Prop:=∀ a,Fr D n a E→c.wp P (lift n Q) a w
def L (P:Program) (n:Nat) (ops:Array Oper) (Q:Post) (l:List Oper) (D:List Deferred) (E:Env) (w:World):Prop:=∀ a,Fr D n a E→wpList P ops (lift n Q) l a w
section
variable {P:Program} {n:Nat} {Q:Post} {D:List Deferred} {E:Env} {w:World}
theorem lift_mk {e:Exit} {a:Act} (he:e≠.outgrown) (h:Fr D n a E) (hq:Q e D E w):lift n Q e a w:=by
  have hd:=h.defers;subst hd;exact ⟨he,E,h,hq⟩
def thn (k:List Deferred→Env→World→Prop) (Q:Post):Post
  | .normal,D,E,w=>k D E w
  | e,D,E,w=>Q e D E w
theorem W.seq {c d:Code} (h:W P n c (thn (W P n d Q) Q) D E w):W P n (.seq c d) Q D E w:=by
  intro a ha;refine wp_seq (wp_mono (h a ha) ?_);rintro e a' w' ⟨he,E',hE,hq⟩;cases e <;> simp only [thn,Exit.then] at hq ⊢;case normal=>exact hq a' hE
  case outgrown=>exact (he rfl).elim
  all_goals exact ⟨he,E',hE,hq⟩
theorem W.mono {c:Code} {Q':Post} (h:W P n c Q D E w) (hq:∀ e D E w,Q e D E w→Q' e D E w):W P n c Q' D E w:=by
  intro a ha;refine wp_mono (h a ha) ?_;rintro e a' w' ⟨he,E',hE,h2⟩;exact ⟨he,E',hE,hq _ _ _ _ h2⟩
theorem W.cut {c d:Code} (J:List Deferred→Env→World→Prop) (h:W P n c (thn J Q) D E w) (hk:∀ D E w,J D E w→W P n d Q D E w):W P n (.seq c d) Q D E w:=
  W.seq (h.mono fun e D E w hq=>by cases e <;> first | exact hk _ _ _ hq | exact hq)
theorem W.skip (h:Q .normal D E w):W P n .skip Q D E w:=fun _ ha=>wp_skip (lift_mk (by simp) ha h)
theorem W.ret (h:Q .ret D E w):W P n .ret Q D E w:=fun _ ha=>wp_ret (lift_mk (by simp) ha h)
theorem W.exit {id:Nat} (h:Q (.exit id) D E w):W P n (.exit id) Q D E w:=fun _ ha=>wp_exit (lift_mk (by simp) ha h)
def blk (id:Nat) (Q:Post):Post
  | .exit id',D,E,w=>if id'=id then Q .normal D E w else Q (.exit id') D E w
  | e,D,E,w=>Q e D E w
theorem W.block {id:Nat} {c:Code} (h:W P n c (blk id Q) D E w):W P n (.block id c) Q D E w:=by
  intro a ha;refine wp_block (wp_mono (h a ha) ?_);rintro e a' w' ⟨he,E',hE,hq⟩;cases e <;> simp only [blk,Exit.inBlock] at hq ⊢;case exit id'=>
    by_cases hid:id'=id
    · simp only [hid,if_true] at hq ⊢;exact ⟨by simp,E',hE,hq⟩
    · simp only [hid,if_false] at hq ⊢;exact ⟨by simp,E',hE,hq⟩
  case outgrown=>exact (he rfl).elim
  all_goals exact ⟨by simp,E',hE,hq⟩
theorem blk_hit {id:Nat} (h:Q .normal D E w):blk id Q (.exit id) D E w:=by simp only [blk,if_true];exact h
theorem blk_miss {id id':Nat} (hne:Nat.beq id' id=false) (h:Q (.exit id') D E w):blk id Q (.exit id') D E w:=by
  have:id'≠id:=fun e=>by subst e;simp at hne
  simp only [blk,this,if_false];exact h
theorem W.cond {c:Operand} {x y:Code} {b:Bool} (hc:ev E c=.bool b) (ht:b=true→W P n x Q D E w) (hf:b=false→W P n y Q D E w):W P n (.cond c x y) Q D E w:=by
  intro a ha;exact wp_cond_split (t:=b) (by rw [ha.eval];exact hc) (fun h=>ht h a ha) (fun h=>hf h a ha)
theorem W.loop {c:Code} (I:Nat→Env→World→Prop) (m:Nat) (h0:I m E w)
    (hr:∀ m E w,I m E w→W P n c (thn (fun D' E' w'=>D'=D∧∃ m',m'<m∧I m' E' w') Q) D E w):W P n (.loop c) Q D E w:=by
  intro a ha b k cs;have key:∀ m E w a,Fr D n a E→I m E w→
      ∃ e a' w',lift n Q e a' w'∧Arrives P (lone (b.at a (.code c :: .inLoop c :: k)) cs w) b k cs e a' w':=by
    intro m;induction m using Nat.strongRecOn with
    | _ m ih=>
      intro E w a ha hI;obtain ⟨e,a₁,w₁,⟨he,E₁,hE₁,hq⟩,harr⟩:=hr m E w hI a ha b (.inLoop c :: k) cs;cases e with
      | normal=>
        obtain ⟨hD,m',hlt,hI'⟩:=hq;rw [hD] at hE₁;obtain ⟨e₂,a₂,w₂,hq₂,harr₂⟩:=ih m' hlt E₁ w₁ a₁ hE₁ hI';exact ⟨e₂,a₂,w₂,hq₂,.of_steps (Steps.trans harr (.one step_inLoop)) harr₂⟩
      | outgrown=>exact (he rfl).elim
      | exit id=>exact ⟨_,a₁,w₁,⟨by simp,E₁,hE₁,hq⟩,.pass (x:=.inLoop c) rfl (fun _ _=>.inl (by simp)) harr⟩
      | goto l=>exact ⟨_,a₁,w₁,⟨by simp,E₁,hE₁,hq⟩,.pass (x:=.inLoop c) rfl (fun _ _=>.inl (by simp)) harr⟩
      | ret=>exact ⟨_,a₁,w₁,⟨by simp,E₁,hE₁,hq⟩,.pass (x:=.inLoop c) rfl (fun _ _=>.inl (by simp)) harr⟩
      | panic ch=>exact ⟨_,a₁,w₁,⟨by simp,E₁,hE₁,hq⟩,.pass (x:=.inLoop c) rfl (fun _ _=>.inl (by simp)) harr⟩
  obtain ⟨e,a',w',hq,harr⟩:=key m E w a ha h0;exact ⟨e,a',w',hq,.of_steps (.one step_loop) harr⟩
theorem W.region {id:Nat} {l:List Oper} (h:L P n l.toArray Q l D E w):W P n (.region id l.toArray false) Q D E w:=
  fun a ha=>wp_region_lit (h a ha)
def X (P:Program) (op:Op) (t:TypeId) (E:Env) (w:World) (v:Value) (w':World):Prop:=
  (execOp (ev E) ⟨none,op,t, "",#[],none⟩).run P w=.ok (.value v) w'
def Xs (P:Program) (op:Op) (t:TypeId) (E:Env) (w:World) (w':World):Prop:=
  (execOp (ev E) ⟨none,op,t, "",#[],none⟩).run P w=.ok .skip w'
def Xc (P:Program) (op:Op) (t:TypeId) (E:Env) (w:World) (f:FuncId) (args:Array Value):Prop:=
  (execOp (ev E) ⟨none,op,t, "",#[],none⟩).run P w=.ok (.enter f args) w
theorem execOp_bare (ρ : Operand→Value) (o:Oper):execOp ρ o=execOp ρ ⟨none,o.op,o.type, "",#[],none⟩:=rfl
theorem L.nil {ops:Array Oper} (h:Q .normal D E w):L P n ops Q [] D E w:=fun _ ha=>wpList_nil (lift_mk (by simp) ha h)
theorem L.val {ops:Array Oper} {r:List Oper} {d:Nat} {op:Op} {t:TypeId} {p:String} {af:Array Edge} {v:Value} {w':World}
    (hx:X P op t E w v w') (hd:Nat.blt d n=true) (k:L P n ops Q r D (upd E d v) w'):L P n ops Q (⟨some d,op,t,p,af,none⟩ :: r) D E w:=by
  intro a ha;refine wpList_plain rfl fun K hK=>?_
  unfold Oper.wp;rw [execOp_bare,ha.eval];unfold X at hx;rw [hx];exact hK _ _ (k _ (ha.put v hd))
theorem L.valn {ops:Array Oper} {r:List Oper} {op:Op} {t:TypeId} {p:String} {af:Array Edge} {v:Value} {w':World}
    (hx:X P op t E w v w') (k:L P n ops Q r D E w'):L P n ops Q (⟨none,op,t,p,af,none⟩ :: r) D E w:=by
  intro a ha;refine wpList_plain rfl fun K hK=>?_
  unfold Oper.wp;rw [execOp_bare,ha.eval];unfold X at hx;rw [hx];exact hK _ _ (k _ (ha.putn v))
theorem L.skip {ops:Array Oper} {r:List Oper} {op:Op} {t:TypeId} {p:String} {af:Array Edge} {w':World}
    (hx:Xs P op t E w w') (k:L P n ops Q r D E w'):L P n ops Q (⟨none,op,t,p,af,none⟩ :: r) D E w:=by
  intro a ha;refine wpList_plain rfl fun K hK=>?_
  unfold Oper.wp;rw [execOp_bare,ha.eval];unfold Xs at hx;rw [hx];exact hK _ _ (k _ (ha.putn _))
theorem L.call {ops:Array Oper} {r:List Oper} {d:Nat} {op:Op} {t:TypeId} {p:String} {af:Array Edge} {f:FuncId} {args:Array Value} {R:Ending→World→Prop}
    (hx:Xc P op t E w f args) (hd:Nat.blt d n=true) (hc:Calls P f args w R)
    (hp:∀ c w',R (.panicked c) w'→Q (.panic c) D E w') (ho:∀ w',¬ R .outgrown w')
    (k:∀ v w',R (.returned v) w'→L P n ops Q r D (upd E d v) w'):L P n ops Q (⟨some d,op,t,p,af,none⟩ :: r) D E w:=by
  intro a ha;refine wpList_plain rfl fun K hK=>?_
  unfold Oper.wp;rw [execOp_bare,ha.eval];unfold Xc at hx;rw [hx,Oper.upon_enter];refine hc.mono fun e w' hR=>?_
  cases e with
  | returned v=>exact hK _ _ (k v w' hR _ (ha.put v hd))
  | panicked c=>exact lift_mk (by simp) ha (hp c w' hR)
  | outgrown=>exact (ho w' hR).elim
def Ret (P:Program) (f:FuncId) (args:Array Value) (w:World) (Φ : Value→World→Prop):Prop:=
  Calls P f args w fun e w'=>∃ v,e=.returned v∧Φ v w'
theorem Ret.mono {f:FuncId} {args:Array Value} {Φ Φ':Value→World→Prop} (h:Ret P f args w Φ) (hk:∀ v w',Φ v w'→Φ' v w'):Ret P f args w Φ':=
  Calls.mono h fun _ _ ⟨v,he,hv⟩=>⟨v,he,hk _ _ hv⟩
theorem L.ret {ops:Array Oper} {r:List Oper} {d:Nat} {op:Op} {t:TypeId} {p:String} {af:Array Edge} {f:FuncId} {args:Array Value} {Φ : Value→World→Prop}
    (hx:Xc P op t E w f args) (hd:Nat.blt d n=true) (hc:Ret P f args w Φ)
    (k:∀ v w',Φ v w'→L P n ops Q r D (upd E d v) w'):L P n ops Q (⟨some d,op,t,p,af,none⟩ :: r) D E w:=
  L.call hx hd hc (fun _ _ ⟨_,he,_⟩=>by cases he) (fun _ ⟨_,he,_⟩=>by cases he) (fun v w' ⟨v',he,hv⟩=>by cases he;exact k v w' hv)
theorem wanted_yes {ops:Array Oper} {a:Act} {o:Oper} {j dj:Nat} {want:Bool} (hg:o.guard=some (j,want)) (hj:(ops[j]?).bind (·.dst)=some dj)
    (ha:Fr D n a E) (hw:E dj=.bool want):Region.wanted o (yielded ops a.tmps)=true:=by
  have hget:=ha.get dj;rw [hw] at hget;have:a.tmps[dj]? = some (.bool want):=by
    rw [Array.getD_eq_getD_getElem?] at hget;cases h:a.tmps[dj]? with
    | none=>rw [h] at hget;simp [undef] at hget
    | some u=>rw [h] at hget;simpa using hget
  simp [Region.wanted,hg,yielded,hj,this]
theorem wanted_no {ops:Array Oper} {a:Act} {o:Oper} {j dj:Nat} {want b:Bool} (hg:o.guard=some (j,want)) (hj:(ops[j]?).bind (·.dst)=some dj)
    (ha:Fr D n a E) (hw:E dj=.bool b) (hb:b=!want):Region.wanted o (yielded ops a.tmps)=false:=by
  have hget:=ha.get dj;rw [hw] at hget;have:a.tmps[dj]? = some (.bool b):=by
    rw [Array.getD_eq_getD_getElem?] at hget;cases h:a.tmps[dj]? with
    | none=>rw [h] at hget;simp [undef] at hget
    | some u=>rw [h] at hget;simpa using hget
  subst hb;cases want <;> simp [Region.wanted,hg,yielded,hj,this]
theorem wanted_undef {ops:Array Oper} {a:Act} {o:Oper} {j dj:Nat} {want:Bool} (hg:o.guard=some (j,want)) (hj:(ops[j]?).bind (·.dst)=some dj)
    (ha:Fr D n a E) (hw:E dj=undef):Region.wanted o (yielded ops a.tmps)=false:=by
  have hget:=ha.get dj;rw [hw] at hget;have:a.tmps[dj]? = none∨a.tmps[dj]? = some undef:=by
    rw [Array.getD_eq_getD_getElem?] at hget;cases h:a.tmps[dj]? with
    | none=>exact .inl rfl
    | some u=>rw [h] at hget;exact .inr (by simpa using hget)
  rcases this with h | h <;> simp [Region.wanted,hg,yielded,hj,h,undef]
theorem L.gyes {ops:Array Oper} {r:List Oper} {dst:Option Tmp} {op:Op} {t:TypeId} {p:String} {af:Array Edge} {j dj:Nat} {want:Bool}
    (hj:(ops[j]?).bind (·.dst)=some dj) (hw:E dj=.bool want) (k:L P n ops Q (⟨dst,op,t,p,af,none⟩ :: r) D E w):
    L P n ops Q (⟨dst,op,t,p,af,some (j,want)⟩ :: r) D E w:=by
  intro a ha;have h:=k a ha;unfold wpList at h ⊢;rw [if_pos (wanted_yes rfl hj ha hw)];rw [if_pos (by simp [Region.wanted])] at h;exact h
theorem L.gno {ops:Array Oper} {r:List Oper} {d:Nat} {op:Op} {t:TypeId} {p:String} {af:Array Edge} {j dj:Nat} {want b:Bool}
    (hj:(ops[j]?).bind (·.dst)=some dj) (hw:E dj=.bool b) (hb:b=!want) (hd:Nat.blt d n=true) (k:L P n ops Q r D (upd E d undef) w):
    L P n ops Q (⟨some d,op,t,p,af,some (j,want)⟩ :: r) D E w:=by
  intro a ha;unfold wpList;rw [if_neg (by rw [wanted_no rfl hj ha hw hb];simp)];exact k _ (ha.put _ hd)
theorem L.gun {ops:Array Oper} {r:List Oper} {d:Nat} {op:Op} {t:TypeId} {p:String} {af:Array Edge} {j dj:Nat} {want:Bool}
    (hj:(ops[j]?).bind (·.dst)=some dj) (hw:E dj=undef) (hd:Nat.blt d n=true) (k:L P n ops Q r D (upd E d undef) w):
    L P n ops Q (⟨some d,op,t,p,af,some (j,want)⟩ :: r) D E w:=by
  intro a ha;unfold wpList;rw [if_neg (by rw [wanted_undef rfl hj ha hw];simp)];exact k _ (ha.put _ hd)
theorem L.split {ops:Array Oper} {l:List Oper} {b:Bool} (ht:b=true→L P n ops Q l D E w) (hf:b=false→L P n ops Q l D E w):L P n ops Q l D E w:=by
  cases b
  · exact hf rfl
  · exact ht rfl
theorem L.splitat {ops:Array Oper} {l:List Oper} {dj:Nat} {b:Bool} (_:E dj=.bool b) (ht:b=true→L P n ops Q l D E w) (hf:b=false→L P n ops Q l D E w):L P n ops Q l D E w:=L.split ht hf
theorem L.gyes' {ops:Array Oper} {r:List Oper} {dst:Option Tmp} {op:Op} {t:TypeId} {p:String} {af:Array Edge} {j dj:Nat} {want b:Bool}
    (hj:(ops[j]?).bind (·.dst)=some dj) (hw:E dj=.bool b) (hb:b=want) (k:L P n ops Q (⟨dst,op,t,p,af,none⟩ :: r) D E w):
    L P n ops Q (⟨dst,op,t,p,af,some (j,want)⟩ :: r) D E w:=L.gyes hj (hb ▸ hw) k
theorem thn_n {k:List Deferred→Env→World→Prop} (h:k D E w):thn k Q .normal D E w:=h
theorem thn_x {k:List Deferred→Env→World→Prop} {id:Nat} (h:Q (.exit id) D E w):thn k Q (.exit id) D E w:=h
theorem thn_r {k:List Deferred→Env→World→Prop} (h:Q .ret D E w):thn k Q .ret D E w:=h
theorem blk_r {id:Nat} (h:Q .ret D E w):blk id Q .ret D E w:=h
theorem blk_n {id:Nat} (h:Q .normal D E w):blk id Q .normal D E w:=h
def LQ (P:Program) (n:Nat) (ops:Array Oper) (C:World→Prop) (K:Env→Prop) (l:List Oper) (D:List Deferred) (E:Env):Prop:=
  ∀ a,Fr D n a E→wpQuiet P ops C (fun a'=>∃ E',Fr D n a' E'∧K E') l a
theorem W.draw {id:Nat} {l:List Oper} (C:World→Prop) (hm:P.follows .mixedOrders=true) (hB:Region.lexB .any l.toArray=true) (hC:C w.drew)
    (h:LQ P n l.toArray C (fun E'=>∀ w',C w'→Q .normal D E' w') l D E):W P n (.region id l.toArray true) Q D E w:=by
  intro a ha;have h1:=h a ha;refine wp_region_quiet hm hB hC ?_;have mono:∀ (l:List Oper) (a:Act),wpQuiet P l.toArray C (fun a'=>∃ E',Fr D n a' E'∧∀ w',C w'→Q .normal D E' w') l a→
      wpQuiet P l.toArray C (fun a'=>∀ w',C w'→lift n Q .normal a' w') l a:=by
    intro l
    suffices H:∀ (ops:Array Oper) (l:List Oper) (a:Act),wpQuiet P ops C (fun a'=>∃ E',Fr D n a' E'∧∀ w',C w'→Q .normal D E' w') l a→
        wpQuiet P ops C (fun a'=>∀ w',C w'→lift n Q .normal a' w') l a from H _ _
    intro ops l;induction l with
    | nil=>
      intro a h;obtain ⟨E',hE,hq⟩:=h;exact fun w' hw'=>lift_mk (by simp) hE (hq w' hw')
    | cons o r ih=>
      intro a h;unfold wpQuiet at h ⊢;split
      · rename_i hw
        rw [if_pos hw] at h;obtain ⟨v,h1,h2⟩:=h;exact ⟨v,h1,ih _ h2⟩
      · rename_i hw
        rw [if_neg hw] at h;exact ih _ h
  exact mono l a h1
theorem LQ.nil {ops:Array Oper} {C:World→Prop} {K:Env→Prop} (h:K E):LQ P n ops C K [] D E:=fun _ ha=>⟨E,ha,h⟩
theorem LQ.val {ops:Array Oper} {C:World→Prop} {K:Env→Prop} {r:List Oper} {d:Nat} {op:Op} {t:TypeId} {p:String} {af:Array Edge} {v:Value}
    (hx:∀ w,C w→X P op t E w v w) (hd:Nat.blt d n=true) (k:LQ P n ops C K r D (upd E d v)):LQ P n ops C K (⟨some d,op,t,p,af,none⟩ :: r) D E:=by
  intro a ha;unfold wpQuiet;rw [if_pos (by simp [Region.wanted])];refine ⟨v,fun w hw=>?_,k _ (ha.put v hd)⟩;have hx:=hx w hw;unfold Oper.quietAt;rw [execOp_bare,ha.eval];unfold X at hx;rw [hx];exact ⟨rfl,rfl⟩
theorem LQ.ret {ops:Array Oper} {C:World→Prop} {K:Env→Prop} {r:List Oper} {d:Nat} {op:Op} {t:TypeId} {p:String} {af:Array Edge} {v:Value} {f:FuncId} {args:Array Value}
    (hx:∀ w,Xc P op t E w f args) (hc:∀ w,C w→Ret P f args w (fun v' w'=>v'=v∧C w')) (hd:Nat.blt d n=true) (k:LQ P n ops C K r D (upd E d v)):LQ P n ops C K (⟨some d,op,t,p,af,none⟩ :: r) D E:=by
  intro a ha;unfold wpQuiet;rw [if_pos (by simp [Region.wanted])];refine ⟨v,fun w hw=>?_,k _ (ha.put v hd)⟩;have hx:=hx w;unfold Oper.quietAt;rw [execOp_bare,ha.eval];unfold Xc at hx;rw [hx];exact ⟨rfl,Calls.mono (hc w hw) fun e w' ⟨u,he,hu,hC⟩=>⟨by rw [he,hu],hC⟩⟩
theorem LQ.gyes {ops:Array Oper} {C:World→Prop} {K:Env→Prop} {r:List Oper} {dst:Option Tmp} {op:Op} {t:TypeId} {p:String} {af:Array Edge} {j dj:Nat} {want:Bool}
    (hj:(ops[j]?).bind (·.dst)=some dj) (hw:E dj=.bool want) (k:LQ P n ops C K (⟨dst,op,t,p,af,none⟩ :: r) D E):
    LQ P n ops C K (⟨dst,op,t,p,af,some (j,want)⟩ :: r) D E:=by
  intro a ha;have h:=k a ha;unfold wpQuiet at h ⊢;rw [if_pos (wanted_yes rfl hj ha hw)];rw [if_pos (by simp [Region.wanted])] at h;exact h
theorem LQ.splitat {ops:Array Oper} {C:World→Prop} {K:Env→Prop} {l:List Oper} {dj:Nat} {b:Bool} (_:E dj=.bool b) (ht:b=true→LQ P n ops C K l D E) (hf:b=false→LQ P n ops C K l D E):LQ P n ops C K l D E:=by
  cases b
  · exact hf rfl
  · exact ht rfl
theorem LQ.gyes' {ops:Array Oper} {C:World→Prop} {K:Env→Prop} {r:List Oper} {dst:Option Tmp} {op:Op} {t:TypeId} {p:String} {af:Array Edge} {j dj:Nat} {want b:Bool}
    (hj:(ops[j]?).bind (·.dst)=some dj) (hw:E dj=.bool b) (hb:b=want) (k:LQ P n ops C K (⟨dst,op,t,p,af,none⟩ :: r) D E):
    LQ P n ops C K (⟨dst,op,t,p,af,some (j,want)⟩ :: r) D E:=LQ.gyes hj (hb ▸ hw) k
theorem LQ.gno {ops:Array Oper} {C:World→Prop} {K:Env→Prop} {r:List Oper} {d:Nat} {op:Op} {t:TypeId} {p:String} {af:Array Edge} {j dj:Nat} {want b:Bool}
    (hj:(ops[j]?).bind (·.dst)=some dj) (hw:E dj=.bool b) (hb:b=!want) (hd:Nat.blt d n=true) (k:LQ P n ops C K r D (upd E d undef)):
    LQ P n ops C K (⟨some d,op,t,p,af,some (j,want)⟩ :: r) D E:=by
  intro a ha;unfold wpQuiet;rw [if_neg (by rw [wanted_no rfl hj ha hw hb];simp)];exact k _ (ha.put _ hd)
theorem LQ.gun {ops:Array Oper} {C:World→Prop} {K:Env→Prop} {r:List Oper} {d:Nat} {op:Op} {t:TypeId} {p:String} {af:Array Edge} {j dj:Nat} {want:Bool}
    (hj:(ops[j]?).bind (·.dst)=some dj) (hw:E dj=undef) (hd:Nat.blt d n=true) (k:LQ P n ops C K r D (upd E d undef)):
    LQ P n ops C K (⟨some d,op,t,p,af,some (j,want)⟩ :: r) D E:=by
  intro a ha;unfold wpQuiet;rw [if_neg (by rw [wanted_undef rfl hj ha hw];simp)];exact k _ (ha.put _ hd)
def env0 (args:List Value):Env:=fun t=>args.getD t undef
theorem fr0 {args:Array Value} {n:Nat} (hn:args.size≤n):Fr [] n { tmps:=args++Array.replicate (n - args.size) undef,defers:=[] } (env0 args.toList):=by
  refine ⟨rfl,by simp;omega,fun t=>?_⟩;simp only [env0,Array.getD_eq_getD_getElem?,List.getD_eq_getElem?_getD];rcases Nat.lt_or_ge t args.size with h | h
  · rw [Array.getElem?_append_left h];simp
  · rw [Array.getElem?_append_right h];have:args.toList[t]? = none:=by simp;omega
    rw [this,Array.getElem?_replicate];split <;> rfl
def fin (res:Env→Value) (Φ : Value→World→Prop):Post:=fun e D E w=>(e=.normal∨e=.ret)∧D=[]∧Φ (res E) w
theorem ret_of_W {f:FuncId} {fn:Func} {c:Code} {args:Array Value} {Φ : Value→World→Prop} {res:Env→Value}
    (hf:P.funcs[f]? = some fn) (hb:fn.body=some c) (hn:args.size≤fn.ntmps)
    (hres:∀ a E,(∀ t,a.getD t undef=E t)→∀ w,(results fn a).run P w=.ok (res E) w)
    (h:W P fn.ntmps c (fin res Φ) [] (env0 args.toList) w):Ret P f args w Φ := by
  refine calls_of_wp hf hb (wp_mono (h _ (fr0 hn)) ?_);rintro e a' w' ⟨he,E',hE,h1,hD,h2⟩;rcases h1 with rfl | rfl
  · exact ⟨hD,_,hres _ _ hE.get _,_,rfl,h2⟩
  · exact ⟨hD,_,hres _ _ hE.get _,_,rfl,h2⟩
theorem res1 {fn:Func} {t:Tmp} (h:fn.results=#[.tmp t]) (a:Array Value) (E:Env) (he:∀ t,a.getD t undef=E t) (w:World):(results fn a).run P w=.ok (E t) w:=by
  rw [results_tmp h,he]
theorem res2 {fn:Func} {t u:Tmp} (h:fn.results=#[.tmp t,.tmp u]) (a:Array Value) (E:Env) (he:∀ t,a.getD t undef=E t) (w:World):(results fn a).run P w=.ok (.tuple #[E t,E u]) w:=by
  rw [results_tmp2 h,he,he]
theorem res3 {fn:Func} {t u s:Tmp} (h:fn.results=#[.tmp t,.tmp u,.tmp s]) (a:Array Value) (E:Env) (he:∀ t,a.getD t undef=E t) (w:World):(results fn a).run P w=.ok (.tuple #[E t,E u,E s]) w:=by
  simp [results,h,he]
theorem res0 {fn:Func} (h:fn.results=#[]) (a:Array Value) (E:Env) (_he:∀ t,a.getD t undef=E t) (w:World):(results fn a).run P w=.ok (.tuple #[]) w:=results_none h _ _ _
theorem fin_mk {res:Env→Value} {Φ : Value→World→Prop} {e:Exit} (he:e=.normal∨e=.ret) (h:Φ (res E) w):fin res Φ e [] E w:=⟨he,rfl,h⟩
end
end Go.Gx
namespace Go.Gx
open Go.RowKit
abbrev Str:=List UInt8
def S (l:Str):Value:=.string ⟨l.toArray⟩
theorem S_size (l:Str):(⟨l.toArray⟩:ByteArray).size=l.length:=by simp [ByteArray.size]
theorem vb {a b:Bool} (h:a=b):Value.bool a=Value.bool b:=congrArg _ h
theorem vi {k:IntKind} {a b:Int} (h:a=b):Value.int k a=Value.int k b:=congrArg _ h
theorem vi_ {p:Prop} (h:p:=by first | rfl | exact vi (by omega)):p:=h
theorem vs {a b:Str} (h:a=b):S a=S b:=congrArg _ h
theorem not_t {b:Bool} (h:(!b)=true):b=false:=by simpa using h
theorem not_f {b:Bool} (h:(!b)=false):b=true:=by simpa using h
theorem dlt_f {a b:Int} (h:decide (a<b)=false):b≤a:=Int.not_lt.1 (of_decide_eq_false h)
theorem dle_f {a b:Int} (h:decide (a≤b)=false):b<a:=Int.not_le.1 (of_decide_eq_false h)
theorem dne_t {a b:Int} (h:(!decide (a=b))=true):a≠b:=by simpa using h
theorem dne_f {a b:Int} (h:(!decide (a=b))=false):a=b:=by simpa using h
theorem seq_t {a b:Str} (h:(a == b)=true):a=b:=by simpa using h
theorem seq_f {a b:Str} (h:(a == b)=false):a≠b:=by simpa using h
theorem sne_t {a b:Str} (h:(!(a == b))=true):a≠b:=by simpa using h
theorem sne_f {a b:Str} (h:(!(a == b))=false):a=b:=by simpa using h
section
variable {P:Program} {E:Env} {w:World}
theorem x_mv {x:Operand} {t:TypeId} {v:Value} (h:ev E x=v):X P (.move x) t E w v w:=by rw [← h];rfl
theorem x_as {x:Operand} {t:TypeId} {v:Value} (h:ev E x=v):X P (.assign x) t E w v w:=by rw [← h];rfl
theorem x_pick_t {c a b:Operand} {t:TypeId} {v:Value} (hc:ev E c=.bool true) (h:ev E a=v):X P (.pick c a b) t E w v w:=by
  unfold X;simp [execOp,hc,h,asBool,go_sem]
theorem x_pick_f {c a b:Operand} {t:TypeId} {v:Value} (hc:ev E c=.bool false) (h:ev E b=v):X P (.pick c a b) t E w v w:=by
  unfold X;simp [execOp,hc,h,asBool,go_sem]
theorem x_len_slice {x:Operand} {t s e:TypeId} {p:Option Addr} {n c:Nat} (hu:P.underlying s=some (.slice e)) (h:ev E x=.slice p n c):
    X P (.call ⟨.builtin .len,#[x],#[s]⟩) t E w (.int .i64 n) w:=by
  unfold X;simp [execOp,resolve,invoke,builtin,Builtin.len_,h,run_underlying hu,goInt]
theorem x_len_str {x:Operand} {t s:TypeId} {l:Str} (hu:P.underlying s=some .string) (h:ev E x=S l):
    X P (.call ⟨.builtin .len,#[x],#[s]⟩) t E w (.int .i64 l.length) w:=by
  unfold X;simp [execOp,resolve,invoke,builtin,h,S,run_len_string w s t _ hu,goInt,S_size]
theorem x_add {x y:Operand} {t u z:TypeId} {k:IntKind} {a b c:Int} (hx:ev E x=.int k a) (hy:ev E y=.int k b) (hc:k.wrap (a+b)=c):
    X P (.binOp .add u x y z) t E w (.int k c) w:=by
  unfold X;simp [execOp,hx,hy,go_sem,Op.intArith,← hc]
theorem x_sub {x y:Operand} {t u z:TypeId} {k:IntKind} {a b c:Int} (hx:ev E x=.int k a) (hy:ev E y=.int k b) (hc:k.wrap (a - b)=c):
    X P (.binOp .sub u x y z) t E w (.int k c) w:=by
  unfold X;simp [execOp,hx,hy,go_sem,Op.intArith,← hc]
theorem x_mul {x y:Operand} {t u z:TypeId} {k:IntKind} {a b c:Int} (hx:ev E x=.int k a) (hy:ev E y=.int k b) (hc:k.wrap (a * b)=c):
    X P (.binOp .mul u x y z) t E w (.int k c) w:=by
  unfold X;simp [execOp,hx,hy,go_sem,Op.intArith,← hc]
theorem wr64 {n:Int} (h:-9223372036854775808≤n∧n≤9223372036854775807):IntKind.i64.wrap n=n:=IntWalk.i64_in n h
theorem wru8 {n:Int} (h:0≤n∧n≤255):IntKind.u8.wrap n=n:=IntWalk.u8_in n h
theorem wru64 {n:Int} (h:0≤n∧n≤18446744073709551615):IntKind.u64.wrap n=n:=IntWalk.u64_in n h
theorem wru32 {n:Int} (h:0≤n∧n≤4294967295):IntKind.u32.wrap n=n:=IntWalk.u32_in n h
theorem x_lss {x y:Operand} {t u z:TypeId} {k:IntKind} {a b:Int} (hx:ev E x=.int k a) (hy:ev E y=.int k b):X P (.binOp .lss u x y z) t E w (.bool (decide (a<b))) w:=by
  unfold X;simp [execOp,hx,hy,go_sem]
theorem x_leq {x y:Operand} {t u z:TypeId} {k:IntKind} {a b:Int} (hx:ev E x=.int k a) (hy:ev E y=.int k b):X P (.binOp .leq u x y z) t E w (.bool (decide (a≤b))) w:=by
  unfold X;simp [execOp,hx,hy,go_sem]
theorem x_gtr {x y:Operand} {t u z:TypeId} {k:IntKind} {a b:Int} (hx:ev E x=.int k a) (hy:ev E y=.int k b):X P (.binOp .gtr u x y z) t E w (.bool (decide (b<a))) w:=by
  unfold X;simp [execOp,hx,hy,go_sem]
theorem x_geq {x y:Operand} {t u z:TypeId} {k:IntKind} {a b:Int} (hx:ev E x=.int k a) (hy:ev E y=.int k b):X P (.binOp .geq u x y z) t E w (.bool (decide (b≤a))) w:=by
  unfold X;simp [execOp,hx,hy,go_sem]
theorem x_eql {x y:Operand} {t u z:TypeId} {k:IntKind} {a b:Int} (hx:ev E x=.int k a) (hy:ev E y=.int k b):X P (.binOp .eql u x y z) t E w (.bool (decide (a=b))) w:=by
  unfold X;have:(a == b)=decide (a=b):=by rw [Bool.eq_iff_iff];simp
  simp [execOp,hx,hy,go_sem,this]
theorem x_neq {x y:Operand} {t u z:TypeId} {k:IntKind} {a b:Int} (hx:ev E x=.int k a) (hy:ev E y=.int k b):X P (.binOp .neq u x y z) t E w (.bool (!decide (a=b))) w:=by
  unfold X;have:(a != b)=!decide (a=b):=by rw [Bool.eq_iff_iff];simp
  simp [execOp,hx,hy,go_sem,this]
theorem x_eqs {x y:Operand} {t u z:TypeId} {a b:Str} (hx:ev E x=S a) (hy:ev E y=S b):X P (.binOp .eql u x y z) t E w (.bool (a == b)) w:=by
  unfold X;simp [execOp,hx,hy,S,eqGuard,binOp_string_eql]
theorem x_nes {x y:Operand} {t u z:TypeId} {a b:Str} (hx:ev E x=S a) (hy:ev E y=S b):X P (.binOp .neq u x y z) t E w (.bool (!(a == b))) w:=by
  unfold X;simp [execOp,hx,hy,S,eqGuard,binOp_string_neq]
theorem x_lts {x y:Operand} {t u z:TypeId} {a b:Str} (hx:ev E x=S a) (hy:ev E y=S b):X P (.binOp .lss u x y z) t E w (.bool (Op.bytesLess a b)) w:=by
  unfold X;simp [execOp,hx,hy,S,eqGuard,binOp_string_lss]
theorem x_cat {x y:Operand} {t u z:TypeId} {a b:Str} (hx:ev E x=S a) (hy:ev E y=S b) (hl:a.length+b.length≤9223372036854775807):X P (.binOp .add u x y z) t E w (S (a++b)) w:=by
  unfold X;simp [execOp,hx,hy,S,eqGuard,binOp_string_add,run_string_add_sum w ⟨a.toArray⟩ ⟨b.toArray⟩ (by rw [S_size,S_size];omega),ByteArray.mk_append_mk]
theorem x_ixs {x y:Operand} {t s:TypeId} {a:Str} {k:IntKind} {i:Int} {j:Nat} (hu:P.underlying s=some .string) (hx:ev E x=S a) (hy:ev E y=.int k i) (hi:i=(j:Nat)) (hj:j<a.length):
    X P (.index s x y) t E w (.int .u8 ((a.getD j 0).toNat:Int)) w:=by
  unfold X;subst hi;have h1:(0:Int)≤(j:Int)∧(j:Int)<((⟨a.toArray⟩:ByteArray).size:Int):=by rw [S_size];omega
  simp only [execOp,hx,hy,S,Sem.run_bind,run_index_string w s _ k j hu];rw [dif_pos h1,List.getD_eq_getElem?_getD,List.getElem?_eq_getElem hj];simp;rfl
theorem x_not {x:Operand} {t u:TypeId} {b:Bool} (hx:ev E x=.bool b):X P (.unOp .not u x) t E w (.bool (!b)) w:=by
  unfold X;simp [execOp,hx,Op.unary]
theorem x_neb {x y:Operand} {t u z:TypeId} {a b:Bool} (hu:P.underlying u=some .bool) (hx:ev E x=.bool a) (hy:ev E y=.bool b):X P (.binOp .neq u x y z) t E w (.bool (!(a == b))) w:=by
  unfold X;simp [execOp,hx,hy,eqGuard,run_neq_bool _ _ _ _ hu]
def fieldOff (P:Program) (s:TypeId) (f:Nat):Option Nat:=
  match P.underlying s with
  | some (.struct fs)=>match fs[f]? with
    | some fl=>match P.info? fl.type with
      | some i=>if i.size=0 then none else some fl.offset
      | none=>none
    | none=>none
  | _=>none
theorem x_fa {x:Operand} {t s:TypeId} {f b o off:Nat} (hf:fieldOff P s f=some off) (hx:ev E x=.pointer (some ⟨b,o,none⟩)):
    X P (.fieldAddr s x f) t E w (.pointer (some ⟨b,o+off,none⟩)) w:=by
  unfold X;unfold fieldOff at hf;cases hu:P.underlying s with
  | none=>simp [hu] at hf
  | some ud=>
    cases ud <;> simp only [hu] at hf <;> try cases hf
    rename_i fs
    cases hfl:fs[f]? with
    | none=>simp [hfl] at hf
    | some fl=>
      simp only [hfl] at hf;cases hi:P.info? fl.type with
      | none=>simp [hi] at hf
      | some inf=>
        simp only [hi] at hf;by_cases h0:inf.size=0
        · simp [h0] at hf
        · simp only [h0,if_false,Option.some.injEq] at hf;simp [execOp,hx,Instr.fieldAt,run_underlying hu,hfl,Instr.sureAddr,fieldPlace,sizeOf,typeInfo,hi,h0,hf,Addr.add]
theorem x_ia {x y:Operand} {t s e:TypeId} {b o n c:Nat} {k:IntKind} {i:Int} {j sz:Nat} (hu:P.underlying s=some (.slice e)) (hs:(P.info? e).map (·.size)=some sz)
    (hx:ev E x=.slice (some ⟨b,o,none⟩) n c) (hy:ev E y=.int k i) (hi:i=(j:Nat)) (hj:j<n):
    X P (.indexAddr s x y) t E w (.pointer (some ⟨b,o+j * sz,none⟩)) w:=by
  unfold X;subst hi;cases hi:P.info? e with
  | none=>simp [hi] at hs
  | some inf=>
    simp only [hi,Option.map_some,Option.some.injEq] at hs;simp [execOp,hx,hy,Instr.indexAt,asIntOf,run_underlying hu,sizeOf,typeInfo,hi,hs,Addr.add,hj]
theorem x_ia1 {x y:Operand} {t s e:TypeId} {b o n c:Nat} {k:IntKind} {i:Int} {j:Nat} (hu:P.underlying s=some (.slice e)) (hs:(P.info? e).map (·.size)=some 1)
    (hx:ev E x=.slice (some ⟨b,o,none⟩) n c) (hy:ev E y=.int k i) (hi:i=(j:Nat)) (hj:j<n):
    X P (.indexAddr s x y) t E w (.pointer (some ⟨b,o+j,none⟩)) w:=by
  have:=x_ia (P:=P) (E:=E) (w:=w) (t:=t) hu hs hx hy hi hj
  rwa [Nat.mul_one] at this
def oneCellT (P:Program) (t:TypeId):Bool:=
  match P.underlying t with
  | some (.struct _) | some (.array _ _) | none=>false
  | _=>true
def aggT (P:Program) (t:TypeId) (k:Nat):Bool:=
  (match P.underlying t with
  | some (.struct _) | some (.array _ _)=>true
  | _=>false) && (P.info? t).map (·.size) == some k
theorem x_ld {x:Operand} {t s:TypeId} {a:Addr} {v:Value} (ht:oneCellT P s=true) (hx:ev E x=.pointer (some a)) (hc:w.cell? a=some v):
    X P (.load s x) t E w v w:=by
  unfold X;have hb:∀ w,(isAgg s).run P w=.ok false w:=by
    unfold oneCellT at ht;cases hu:P.underlying s with
    | none=>simp [hu] at ht
    | some d=>
      intro w;refine Go.Proofs.run_isAgg_plain hu ?_ w;cases d <;> simp_all
  simp [execOp,hx,Instr.loadAt,Instr.sureAddr,loadVar,hb,hc]
theorem x_ldn {x:Operand} {t s:TypeId} {b o k:Nat} {vs:List Value} (ht:aggT P s k=true) (hx:ev E x=.pointer (some ⟨b,o,none⟩)) (hl:vs.length=k)
    (hc:∀ j,j<k→w.cell? ⟨b,o+j,none⟩=vs[j]?):
    X P (.load s x) t E w (.agg vs.toArray) w:=by
  unfold X;subst hl;unfold aggT at ht;simp only [Bool.and_eq_true,beq_iff_eq] at ht;obtain ⟨h1,h2⟩:=ht;have hb:∀ w,(isAgg s).run P w=.ok true w:=by
    cases hu:P.underlying s with
    | none=>simp [hu] at h1
    | some d=>intro w;cases d <;> simp_all [isAgg,run_underlying hu]
  have hz:∀ w,(sizeOf s).run P w=.ok vs.length w:=by
    cases hi:P.info? s with
    | none=>simp [hi] at h2
    | some i=>intro w;simp [hi] at h2;simp [sizeOf,typeInfo,hi,h2]
  have hl:=run_loadCells_list (P:=P) w ⟨b,o,none⟩ vs (fun j v hv=>by
    obtain ⟨hj,hv'⟩:=List.getElem?_eq_some_iff.1 hv;rw [show (⟨b,o,none⟩:Addr).add j=⟨b,o+j,none⟩ by unfold Addr.add;split <;> simp_all];rw [hc j hj];exact hv)
  simp [execOp,hx,Instr.loadAt,Instr.sureAddr,loadVar,hb,hz,hl]
theorem x_ext {x:Operand} {t:TypeId} {i:Nat} {vs:Array Value} {v:Value} (hx:ev E x=.tuple vs) (hv:vs[i]? = some v):X P (.extract x i) t E w v w:=by
  unfold X;simp [execOp,hx,Instr.extract,hv]
theorem x_st {x y:Operand} {t s:TypeId} {a:Addr} {v u:Value} (hs:(P.info? s).map (·.size)=some 1) (hx:ev E x=.pointer (some a)) (hy:ev E y=v) (h1:v.oneCell'=true)
    (hc:w.cell? a=some u) (hf:w.frozen? a=false):Xs P (.store s x y) t E w (w.setCell a v):=by
  unfold Xs;have hcells:v.cells=#[v]:=by cases v <;> simp_all [Value.cells,Value.oneCell']
  have hz:∀ w,(sizeOf s).run P w=.ok 1 w:=by
    cases hi:P.info? s with
    | none=>simp [hi] at hs
    | some i=>intro w;simp [hi] at hs;simp [sizeOf,typeInfo,hi,hs]
  simp [execOp,hx,hy,Instr.storeAt,Instr.sureAddr,storeVar,hz,hcells,storeCells,Addr.add,run_store P w a v .plain h1,hc,hf]
theorem x_box {x:Operand} {t s:TypeId} {v:Value} (hx:ev E x=v):X P (.box s x) t E w (.pointer (some ⟨w.heap.size,0,none⟩)) (w.alloc (.cells v.cells s)):=by
  unfold X;simp [execOp,hx,Instr.box,newVar,newRow]
theorem x_alloc {t s:TypeId} {z:Value} (hz:(P.info? s).bind (·.zero)=some z):X P (.alloc s) t E w (.pointer (some ⟨w.heap.size,0,none⟩)) (w.alloc (.cells z.cells s)):=by
  unfold X;cases hi:P.info? s with
  | none=>simp [hi] at hz
  | some i=>
    simp [hi] at hz;simp [execOp,Instr.alloc,zeroValue,typeInfo,hi,hz,newVar,newRow]
theorem x_call {f:FuncId} {xs:Array Operand} {ts:Array TypeId} {t:TypeId} {vs:List Value} (he:Go.Proofs.Enters P f) (hv:xs.toList.map (ev E)=vs):Xc P (.call ⟨.value (.func f),xs,ts⟩) t E w f vs.toArray:=by
  unfold Xc;have hv':xs.map (ev E)=vs.toArray:=by apply Array.ext';simpa using hv
  simp only [execOp,resolve,ev,Deferred.ofValue,hv',Sem.run_bind];have:=he (#[]++vs.toArray++#[]) w;simpa [invoke] using this
theorem x_callv {x:Operand} {f:FuncId} {xs:Array Operand} {ts:Array TypeId} {t:TypeId} {vs first cap:List Value} (he:Go.Proofs.Enters P f) (hx:ev E x=.func (.func f) first.toArray cap.toArray) (hv:first++xs.toList.map (ev E)++cap=vs):
    Xc P (.call ⟨.value x,xs,ts⟩) t E w f vs.toArray:=by
  unfold Xc;have hv':first.toArray++xs.map (ev E)++cap.toArray=vs.toArray:=by apply Array.ext';simpa using hv
  simp only [execOp,resolve,hx,Deferred.ofValue,Sem.run_bind];have:=he (first.toArray++xs.map (ev E)++cap.toArray) w;rw [hv'] at this;simpa [invoke,← hv'] using this
end
end Go.Gx
