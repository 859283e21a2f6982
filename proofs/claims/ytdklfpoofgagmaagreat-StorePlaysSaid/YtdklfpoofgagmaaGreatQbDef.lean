/- Calls that may panic, deferred calls, recover; closures; whole stores. Conditions: none. -/
import Derived.Defers
import Derived.Recover
import Derived.Laws.Bits64
import Derived.RangeFuncBox
import Derived.RangeFuncBound
import Derived.RangeFuncFrom
import Derived.RangeFuncLeaves
import Derived.TacticsIn
import Derived.OwnWalkIn
import Derived.Maps.AppendAt
import Derived.Lib.SliceRun
import Derived.Laws.MakeOwn
import Derived.Test.YtdklfpoofgagmaaGreatQbRep
namespace Go.Gx
open Go.RowKit
section
variable {P:Program} {n:Nat} {Q:Post} {D:List Deferred} {E:Env} {w:World}
def LA (P:Program) (n:Nat) (ops:Array Oper) (Q:Post) (fuel:Nat) (listed:Array Bool) (D:List Deferred) (E:Env) (w:World):Prop:=
  ∀ a,Fr D n a E→wpAny P .any ops (lift n Q) fuel listed a w
def LAs (P:Program) (n:Nat) (ops:Array Oper) (Q:Post) (fuel:Nat) (listed:Array Bool) (D:List Deferred) (E:Env) (w:World):List Nat→Prop
  | []=>True
  | i :: r=>(∃ o,ops[i]? = some o∧L P n ops (thn (LA P n ops Q fuel (listed.setIfInBounds i true)) Q) [o] D E w)∧LAs P n ops Q fuel listed D E w r
theorem LA.done {ops:Array Oper} {listed:Array Bool} (hr:Region.ready .any ops listed=[]) (h:Q .normal D E w):LA P n ops Q 0 listed D E w:=
  fun _ ha=>⟨hr,lift_mk (by simp) ha h⟩
theorem LA.step {ops:Array Oper} {fuel:Nat} {listed:Array Bool} {rs:List Nat} (hr:Region.ready .any ops listed=rs) (hne:rs≠[]) (h:LAs P n ops Q fuel listed D E w rs):LA P n ops Q (fuel+1) listed D E w:=by
  intro a ha;refine ⟨fun h0=>absurd (hr.symm.trans h0) hne,fun i hi=>?_⟩;rw [hr] at hi;have key:∀ rs:List Nat,LAs P n ops Q fuel listed D E w rs→i∈rs→∃ o,ops[i]? = some o∧L P n ops (thn (LA P n ops Q fuel (listed.setIfInBounds i true)) Q) [o] D E w:=by
    intro rs;induction rs with
    | nil=>intro _ hi;cases hi
    | cons j r ih=>
      intro hL hi;rcases List.mem_cons.1 hi with rfl | hi
      · exact hL.1
      · exact ih hL.2 hi
  obtain ⟨o,ho,hL⟩:=key rs h hi;have h1:=hL a ha;have hl:∀ e a w,lift n (thn (LA P n ops Q fuel (listed.setIfInBounds i true)) Q) e a w→Exit.then (wpAny P .any ops (lift n Q) fuel (listed.setIfInBounds i true)) (lift n Q) e a w:=by
    intro e a w ⟨h1,E',h2,h3⟩;cases e <;> simp only [thn,Exit.then] at h3 ⊢;case normal=>exact h3 a h2
    case outgrown=>exact absurd rfl h1
    all_goals exact ⟨by simp,E',h2,h3⟩
  unfold wpOp;rw [ho];simp only;unfold wpList at h1;split
  · rename_i hw
    rw [if_pos hw] at h1;rcases h1 with h1 | ⟨_,a',w',h1⟩
    · refine .inl ?_;unfold Oper.wp at h1 ⊢;generalize (execOp a.eval o).run P w=res at h1 ⊢;cases res with
      | ok x w'=>
        cases x <;> simp only [Oper.upon,wpList] at h1 ⊢ <;> try exact hl _ _ _ h1
        · refine h1.mono fun e w'' h=>?_
          cases e with
          | returned v=>exact hl _ _ _ h
          | panicked c=>exact hl _ _ _ h
          | outgrown=>obtain ⟨a',w',h⟩:=h;exact absurd rfl h.1
        · exact h1.mono fun v w'' h=>hl _ _ _ h
      | halt x w'=>cases x <;> simp only [Oper.upon] at h1 ⊢ <;> try exact hl _ _ _ h1
    · exact absurd rfl h1.1
  · rename_i hw;rw [if_neg hw] at h1;exact hl _ _ _ h1
theorem L.defer {ops:Array Oper} {r:List Oper} {x:Operand} {xs:Array Operand} {ts:Array TypeId} {t:TypeId} {p:String} {af:Array Edge} {fn:Fn} {first cap vs:List Value}
    (hx:ev E x=.func fn first.toArray cap.toArray) (hv:first++xs.toList.map (ev E)=vs) (k:L P n ops Q r ({ target:=.fn fn cap.toArray,args:=vs.toArray } :: D) E w):
    L P n ops Q (⟨none,.defer ⟨.value x,xs,ts⟩,t,p,af,none⟩ :: r) D E w:=by
  intro a ha;refine wpList_plain rfl fun K hK=>?_
  unfold Oper.wp;have hv':first.toArray++xs.map (ev E)=vs.toArray:=by apply Array.ext';simpa using hv
  have hrun:(execOp a.eval ⟨none,.defer ⟨.value x,xs,ts⟩,t,p,af,none⟩).run P w=.ok (.defer { target:=.fn fn cap.toArray,args:=vs.toArray }) w:=by
    rw [ha.eval];simp only [execOp,resolve,hx,Deferred.ofValue,hv',Sem.run_bind];rfl
  rw [hrun,Oper.upon_defer];exact hK _ _ (k _ ⟨by rw [← ha.defers];rfl,ha.size,ha.get⟩)
theorem L.panic {ops:Array Oper} {r:List Oper} {x:Operand} {t tt:TypeId} {p:String} {af:Array Edge} {v:Value}
    (hx:ev E x=.iface tt v) (k:Q (.panic [{ v:=.iface tt v,recovered:=false }]) D E w):
    L P n ops Q (⟨none,.panic x,t,p,af,none⟩ :: r) D E w:=by
  intro a ha;refine wpList_plain rfl fun K hK=>?_
  unfold Oper.wp;have hrun:(execOp a.eval ⟨none,.panic x,t,p,af,none⟩).run P w=.halt (.panic (.iface tt v)) w:=by
    rw [ha.eval];simp only [execOp,hx,Sem.run_bind,run_panic_iface];rfl
  rw [hrun,Oper.upon_panic];exact lift_mk (by simp) ha k
theorem x_mkfn {fn:Fn} {first cap:Array Operand} {t:TypeId} {vs us:List Value} (h1:first.toList.map (ev E)=vs) (h2:cap.toList.map (ev E)=us):X P (.makeFunc fn first cap) t E w (.func fn vs.toArray us.toArray) w:=by
  unfold X;have h1':first.map (ev E)=vs.toArray:=by apply Array.ext';simpa using h1
  have h2':cap.map (ev E)=us.toArray:=by apply Array.ext';simpa using h2
  simp only [execOp,h1',h2'];rfl
theorem x_iface {x:Operand} {t s:TypeId} {v:Value} {d:TypeDesc} (hu:P.underlying s=some d) (hd:(match d with | .interface _=>false | _=>true)=true) (hx:ev E x=v):X P (.makeInterface s x) t E w (.iface s v) w:=by
  unfold X;cases d <;> simp_all [execOp,Instr.makeInterface,run_underlying hu]
theorem x_max {x y:Operand} {ts:Array TypeId} {t:TypeId} {k:IntKind} {a b:Int} (hx:ev E x=.int k a) (hy:ev E y=.int k b):X P (.call ⟨.builtin .max,#[x,y],ts⟩) t E w (.int k (max a b)) w:=by
  unfold X;have:(if b > a then b else a)=max a b:=by split <;> omega
  simp [execOp,resolve,invoke,builtin,hx,hy,run_max_int2,this]
theorem x_min {x y:Operand} {ts:Array TypeId} {t:TypeId} {k:IntKind} {a b:Int} (hx:ev E x=.int k a) (hy:ev E y=.int k b):X P (.call ⟨.builtin .min,#[x,y],ts⟩) t E w (.int k (min a b)) w:=by
  unfold X;have:(if b<a then b else a)=min a b:=by split <;> omega
  simp [execOp,resolve,invoke,builtin,hx,hy,Builtin.min_,Builtin.min2,this]
theorem L.setRow {ops:Array Oper} {r:List Oper} {x y:Operand} {s t:TypeId} {p:String} {af:Array Edge} {b k:Nat} {T:TypeId} {cs new:List Value} (hs:aggT P s k=true)
    (hx:ev E x=.pointer (some ⟨b,0,none⟩)) (hy:ev E y=.agg new.toArray) (hb:Box w b T cs) (hl:cs.length=k) (hn:new.length=k) (h1:∀ v∈new,v.oneCell'=true)
    (kk:∀ w1,Box w1 b T new→Gr (· = b) w w1→w1.heap.size=w.heap.size→L P n ops Q r D E w1):L P n ops Q (⟨none,.store s x y,t,p,af,none⟩ :: r) D E w:=by
  unfold aggT at hs;simp only [Bool.and_eq_true,beq_iff_eq] at hs;have hrun:=Go.run_storeVar_row (P:=P) w b T s cs.toArray new.toArray hb (by rw [hs.2];simp [hn]) (by simp [hl,hn]) (by rw [Array.all_eq_true_iff_forall_mem];intro v hv;exact h1 v (by simpa using hv));refine L.skip (w':=w.setRow b new.toArray) ?_ (kk _ (setRow_heap w b cs.toArray new.toArray T (0,0) hb) ⟨rfl,rfl,rfl,by simp [World.setRow],fun k _ hk=>setRow_other w b k _ hk⟩ (by simp [World.setRow]));unfold Xs;simp only [execOp,hx,hy,Instr.storeAt,Instr.sureAddr,Sem.run_bind,Sem.run_pure,Result.andThen_ok,hrun]
end
theorem StrsAt.one {A:Nat→Prop} {w:World} {v:Value} {l:List Str} (h:StrsAt A w v l):v.oneCell'=true:=by
  obtain ⟨p,cap,rfl,-⟩:=h;rfl
theorem ShC.one {A:Nat→Prop} {w:World} {cs:List Value} {s:Sh} (h:ShC A w cs s):∀ v∈cs,v.oneCell'=true:=by
  obtain ⟨vn,vp,rfl,hn,hp,-⟩:=h.inv;obtain ⟨p,cap,row,rfl,-⟩:=hp;intro v hv;simp only [List.mem_cons,List.not_mem_nil,or_false] at hv;rcases hv with rfl | rfl | rfl | rfl | rfl
  · rfl
  · rfl
  · rfl
  · exact hn.one
  · rfl
end Go.Gx
namespace Go.Gx
variable {P:Program} {n:Nat} {Q:Post} {D:List Deferred} {E:Env} {w:World}
theorem wq64 {a b:Int} (ha:0≤a∧a≤9223372036854775807) (hb:0<b):IntKind.i64.wrap (a.tdiv b)=a / b:=by
  rw [Int.tdiv_eq_ediv_of_nonneg ha.1];have h1:0≤a / b:=Int.ediv_nonneg ha.1 om_;have h2:a / b≤a:=Int.ediv_le_self _ ha.1;exact wr64 ⟨by omega,by omega⟩
theorem x_quo {x y:Operand} {t u z:TypeId} {k:IntKind} {a b c:Int} (hx:ev E x=.int k a) (hy:ev E y=.int k b) (hb:b≠0) (hc:k.wrap (a.tdiv b)=c):
    X P (.binOp .quo u x y z) t E w (.int k c) w:=by
  unfold X;simp [execOp,hx,hy,go_sem,Op.intDiv,hb,← hc]
theorem x_conv {x:Operand} {t s d:TypeId} {k k':IntKind} {a c:Int} (hs:(P.underlying s).isSome=true) (hd:P.underlying d=some (.int k')) (hx:ev E x=.int k a) (hc:k'.wrap a=c):
    X P (.convert s d x) t E w (.int k' c) w:=by
  have hk:P.intKind d=k':=by simp [Program.intKind,hd]
  unfold X;simp [execOp,hx,run_convert_int w s d k a hs (by rw [hk];exact hd),hk,hc]
theorem x_band {x y:Operand} {t u z:TypeId} {k:IntKind} {a b:Int} (hx:ev E x=.int k a) (hy:ev E y=.int k b):X P (.binOp .and u x y z) t E w (.int k (bits .and k a b)) w:=by
  unfold X;simp [execOp,hx,hy,go_sem]
theorem x_bxor {x y:Operand} {t u z:TypeId} {k:IntKind} {a b:Int} (hx:ev E x=.int k a) (hy:ev E y=.int k b):X P (.binOp .xor u x y z) t E w (.int k (bits .xor k a b)) w:=by
  unfold X;simp [execOp,hx,hy,go_sem]
theorem x_shl {x y:Operand} {t u z:TypeId} {k k':IntKind} {a b:Int} (hx:ev E x=.int k a) (hy:ev E y=.int k' b) (hb:0≤b) (hb':b≤k.bits):X P (.binOp .shl u x y z) t E w (.int k (k.wrap (a * 2 ^ b.toNat))) w:=by
  unfold X;simp [execOp,hx,hy,eqGuard,binOp_shl,shift_shl k k' a b hb hb']
theorem x_shr {x y:Operand} {t u z:TypeId} {k k':IntKind} {a b:Int} (hx:ev E x=.int k a) (hy:ev E y=.int k' b) (hb:0≤b) (hb':b≤k.bits):X P (.binOp .shr u x y z) t E w (.int k (a / 2 ^ b.toNat)) w:=by
  unfold X;simp [execOp,hx,hy,eqGuard,binOp_shr,shift_shr k k' a b hb hb']
theorem x_nil {x:Operand} {t:TypeId} {a:Addr} (hx:ev E x=.pointer (some a)):X P (.nilCheck x) t E w (.pointer (some a)) w:=by
  unfold X;simp [execOp,hx,go_sem]
def nrm (K:List Deferred→Env→World→Prop):Post:=fun e D E w=>e=.normal∧K D E w
theorem LA.take {K:List Deferred→Env→World→Prop} {ops:Array Oper} {fuel:Nat} {listed:Array Bool} {i d:Nat} {op:Op} {t:TypeId} {p:String} {af:Array Edge} {v:Value}
    (ho:ops[i]? = some ⟨some d,op,t,p,af,none⟩) (hs:Region.noSelect ops=true) (hf:Region.free .any ops listed i=true) (hr:(Region.ready .any ops listed).contains i=true)
    (hx:∀ w,X P op t E w v w) (hd:Nat.blt d n=true) (k:LA P n ops (nrm K) fuel (listed.setIfInBounds i true) D (upd E d v) w):LA P n ops (nrm K) (fuel+1) listed D E w:=by
  intro a ha;refine wpAny_take ho hs hf hr ?_ (.inl ⟨by simp [Region.wanted],fun w=>?_⟩) (k _ (ha.put v hd))
  · rintro c a w ⟨_,E,_,h,_⟩;cases h
  · have:=hx w;unfold X at this;rw [execOp_bare,ha.eval];exact this
def Row {α : Type} (enc:α → Value) (w:World) (b o:Nat) (T:TypeId) (hd:List Value) (d:Array α) (tl:List Value):Prop:=
  hd.length=o∧Box w b T (hd++d.toList.map enc++tl)
section
variable {α : Type} {enc:α → Value} {b o:Nat} {T:TypeId} {hd tl:List Value} {d:Array α}
theorem Row.carryR {R:Nat→Prop} {w w':World} (h:Row enc w b o T hd d tl) (g:Gr R w w') (hn:¬ R b):Row enc w' b o T hd d tl:=⟨h.1,h.2.carryR g hn⟩
theorem Row.carry {w w':World} (h:Row enc w b o T hd d tl) (g:Bel w w'):Row enc w' b o T hd d tl:=⟨h.1,h.2.carry g⟩
theorem Row.lt {w:World} (h:Row enc w b o T hd d tl):b<w.heap.size:=h.2.lt
theorem Row.at [Inhabited α] {w:World} (h:Row enc w b o T hd d tl) {i:Nat} (hi:i<d.size):w.cell? ⟨b,o+i,none⟩=some (enc d[i]!):=by
  refine h.2.cell ?_;rw [List.append_assoc,List.getElem?_append_right (by have:=h.1;omega),h.1,show o+i - o=i by omega,List.getElem?_append_left (by simpa using hi)];simp [hi]
theorem Row.set {w:World} (h:Row enc w b o T hd d tl) {i:Nat} (hi:i<d.size) (x:α):Row enc (w.setCell ⟨b,o+i,none⟩ (enc x)) b o T hd (d.setIfInBounds i x) tl:=by
  refine ⟨h.1,?_⟩;have:=h.2.set (o+i) (enc x);have e:(hd++d.toList.map enc++tl).set (o+i) (enc x)=hd++(d.setIfInBounds i x).toList.map enc++tl:=by
    rw [List.append_assoc,List.set_append_right _ _ (by have:=h.1;omega),h.1,show o+i - o=i by omega,List.set_append_left _ _ (by simpa using hi),List.append_assoc];congr 2;rw [Array.toList_setIfInBounds,List.map_set]
  rw [e] at this;exact this
theorem Row.free {w:World} (h:Row enc w b o T hd d tl) (i:Nat):w.frozen? ⟨b,i,none⟩=false:=h.2.free i
end
end Go.Gx
namespace Go.Gx
variable {P:Program} {n:Nat} {Q:Post} {D:List Deferred} {E:Env} {w:World}
theorem gr_of_grown {a b:World} {row:Option Nat} (h:a.grownBy b row):Gr (fun k=>some k=row) a b:=⟨h.os,h.tape,h.output,h.size,fun k hk hn=>h.block k hk hn⟩
def Own (w:World) (base:Nat) (e:TypeId) (sz:Nat) (v:Value) (k:Nat) (xs:List Value):Prop:=w.ownsRow base e sz v k xs
section
variable {base:Nat} {e:TypeId} {sz:Nat} {v:Value} {k:Nat} {xs:List Value}
theorem own_nil:Own w base e sz (.slice none 0 0) 0 []:=World.ownsRow_nil w base e sz
theorem Own.carryR {R:Nat→Prop} {w':World} (h:Own w base e sz v k xs) (g:Gr R w w') (hR:∀ j,some j=v.ownBlock→¬ R j):Own w' base e sz v k xs:=by
  refine ⟨h.1,?_⟩;rcases h.2 with hn | ⟨b,cap,cur,rfl,hb,hg,rest⟩
  · exact .inl hn
  · exact .inr ⟨b,cap,cur,rfl,hb,(g.block b (Array.getElem?_eq_some_iff.1 hg).1 (hR b rfl)).trans hg,rest⟩
theorem Own.carry {w':World} (h:Own w base e sz v k xs) (g:Bel w w'):Own w' base e sz v k xs:=h.carryR g fun _ _ f=>f
theorem Own.weak {base':Nat} (h:Own w base e sz v k xs) (hb:base'≤base):Own w base' e sz v k xs:=by
  refine ⟨h.1,?_⟩;rcases h.2 with hn | ⟨b,cap,cur,hv,hbb,rest⟩
  · exact .inl hn
  · exact .inr ⟨b,cap,cur,hv,Nat.le_trans hb hbb,rest⟩
theorem Own.lt (h:Own w base e sz v k xs) {j:Nat} (hj:some j=v.ownBlock):base≤j∧j<w.heap.size:=by
  rcases h.2 with ⟨rfl,-⟩ | ⟨b,cap,cur,rfl,hb,hg,-⟩
  · simp [Value.ownBlock] at hj
  · simp [Value.ownBlock] at hj;subst hj;exact ⟨hb,(Array.getElem?_eq_some_iff.1 hg).1⟩
theorem Own.open (h:Own w base e sz v k xs):(v=.slice none 0 0∧k=0∧xs=[])∨∃ b cap tl,v=.slice (some ⟨b,0,none⟩) k cap∧base≤b∧k≤cap∧cap≤9223372036854775807∧Box w b e (xs++tl):=by
  rcases h.2 with ⟨rfl,rfl⟩ | ⟨b,cap,cur,rfl,hb,hg,h1,h2,h3,h4⟩
  · refine .inl ⟨rfl,rfl,List.eq_nil_of_length_eq_zero (by simpa using h.1)⟩
  · refine .inr ⟨b,cap,cur.toList.drop (k * sz),rfl,hb,h1,h2,?_⟩;unfold Box;rw [← h4,List.take_append_drop,Array.toArray_toList];exact hg
theorem append_run {t ty:TypeId} {a:Addr} {m:Nat} (c:Nat) {news:List Value} (ht:P.underlying t=some (.slice e)) (he:elT P e sz=true) (h:Own w base e sz v k xs)
    (hl:news.length=m * sz) (hn:∀ j u,news[j]? = some u→w.cell? (a.add j)=some u) (h1:∀ u∈news,u.oneCell'=true) (hk:(k+m) * 200≤140737488355328) (hb:base≤w.heap.size):
    ∃ v' w',(Builtin.append_ #[t,t] ty #[v,.slice (some a) m c]).run P w=.ok v' w'∧Own w' base e sz v' (k+m) (xs++news)∧Gr (fun j=>some j=v.ownBlock) w w'∧(v'=.slice none 0 0↔v=.slice none 0 0∧m=0)∧(v'.ownBlock=v.ownBlock∨v'.ownBlock=some w.heap.size):=by
  obtain ⟨i,z,hi,hz,hs,hzs,hpos,hby⟩:=elT_spec he;obtain ⟨v',w',a1,a2,a3,a4,a5⟩:=run_append_own_at (P:=P) w base t ty e i z sz i.bytes ht hi hz hs rfl hzs hpos v k xs h a m c news hl hn h1 (by simp only [maxLen];omega) (Nat.le_trans (Nat.mul_le_mul_left _ hby) hk) hb;exact ⟨v',w',a1,a2,gr_of_grown a3,a4,a5⟩
end
theorem Own.cells {base:Nat} {e:TypeId} {sz:Nat} {v:Value} {k:Nat} {xs:List Value} (h:Own w base e sz v k xs) {j:Nat} {o:Obj} (hj:some j=v.ownBlock) (ho:w.heap[j]? = some o):o.isCells=true:=by
  rcases h.2 with ⟨rfl,-⟩ | ⟨b,cap,cur,rfl,hb,hg,-⟩
  · simp [Value.ownBlock] at hj
  · simp [Value.ownBlock] at hj;subst hj;rw [hg] at ho;cases ho;rfl
theorem keeps_of_gr {R:Nat→Prop} {a b:World} (h:Gr R a b) (hR:∀ k o,R k→a.heap[k]? = some o→o.isCells=true):KeepsOthers a b:=
  ⟨h.size,fun k o hk ho=>(h.block k (Array.getElem?_eq_some_iff.1 hk).1 (fun hr=>by rw [hR k o hr hk] at ho;cases ho)).trans hk⟩
theorem Box.news {b:Nat} {t:TypeId} {cs:List Value} (h:Box w b t cs):∀ j u,cs[j]? = some u→w.cell? ((⟨b,0,none⟩:Addr).add j)=some u:=fun j u hj=>by
  have:=h.cell hj;cases j <;> simpa [Addr.add] using this
theorem gr_putObj (w:World) (l:Nat) (o:Obj):Gr (· = l) w (w.putObj l o):=⟨rfl,rfl,rfl,by simp,fun k _ hn=>World.putObj_heap_other hn⟩
theorem below_of_gr {n₀ : Nat} {a b:World} (h:Gr (fun k=>n₀ ≤ k) a b) (hn:n₀ ≤ a.heap.size):RowKit.Below n₀ a b:=⟨h.os,h.tape,h.output,h.size,fun k hk=>h.block k om_ om_⟩
theorem x_append {x y:Operand} {T t:TypeId} {v u v':Value} {w':World} (hx:ev E x=v) (hy:ev E y=u) (hrun:(Builtin.append_ #[T,T] t #[v,u]).run P w=.ok v' w'):
    X P (.call ⟨.builtin .append,#[x,y],#[T,T]⟩) t E w v' w':=by
  unfold X;simp [execOp,resolve,invoke,builtin,hx,hy,hrun,Result.andThen]
theorem L.append {base:Nat} {e:TypeId} {sz:Nat} {v:Value} {k:Nat} {xs:List Value} {ops:Array Oper} {r:List Oper} {d:Nat} {x y:Operand} {T t:TypeId} {p:String} {af:Array Edge} {a:Addr} {m c:Nat} {news:List Value}
    (hu:P.underlying T=some (.slice e)) (he:elT P e sz=true) (hx:ev E x=v) (hy:ev E y=.slice (some a) m c) (hd:Nat.blt d n=true) (h:Own w base e sz v k xs)
    (hl:news.length=m * sz) (hn:∀ j u,news[j]? = some u→w.cell? (a.add j)=some u) (h1:∀ u∈news,u.oneCell'=true) (hk:(k+m) * 200≤140737488355328) (hb:base≤w.heap.size)
    (kk:∀ v' w',Own w' base e sz v' (k+m) (xs++news)→Gr (fun j=>some j=v.ownBlock) w w'→(v'=.slice none 0 0↔v=.slice none 0 0∧m=0)→(v'.ownBlock=v.ownBlock∨v'.ownBlock=some w.heap.size)→L P n ops Q r D (upd E d v') w'):
    L P n ops Q (⟨some d,.call ⟨.builtin .append,#[x,y],#[T,T]⟩,t,p,af,none⟩ :: r) D E w:=by
  obtain ⟨v',w',hrun,a1,a2,a3,a4⟩:=append_run (ty:=t) c hu he h hl hn h1 hk hb;exact L.val (x_append hx hy hrun) hd (kk v' w' a1 a2 a3 a4)
theorem x_shi {x y:Operand} {t s e:TypeId} {a:Option Addr} {c m:Nat} {k:IntKind} {i:Int} {j sz:Nat} (hu:P.underlying s=some (.slice e)) (hs:(P.info? e).map (·.size)=some sz)
    (hx:ev E x=.slice a m c) (hy:ev E y=.int k i) (hi:i=(j:Nat)) (hj:j≤c):
    X P (.slice s x none (some y) none) t E w (.slice a j c) w:=by
  unfold X;subst hi;cases hi:P.info? e with
  | none=>simp [hi] at hs
  | some inf=>
    simp only [hi,Option.map_some,Option.some.injEq] at hs;simp [execOp,hx,hy,Instr.sliceAt,Instr.slice,Instr.sliceBounds,Instr.sliceBound,asIntOf,run_underlying hu,sizeOf,typeInfo,hi,Addr.add,hj]
theorem size_setCells' (b:Nat):∀ (vs:List Value) (o:Nat) (w:World),(w.setCells b o vs).heap.size=w.heap.size
  | [],_,_=>rfl
  | v :: r,o,w=>by rw [World.setCells,size_setCells' b r (o+1)];simp
theorem gr_setCells (b:Nat):∀ (vs:List Value) (o:Nat) (w:World),Gr (· = b) w (w.setCells b o vs)
  | [],_,w=>Gr.refl _ w
  | v :: r,o,w=>by rw [World.setCells];exact (gr_setCell w ⟨b,o,none⟩ v).trans (gr_setCells b r (o+1) _)
theorem L.clear {ops:Array Oper} {r:List Oper} {x:Operand} {s e t:TypeId} {p:String} {af:Array Edge} {z:Value} {b o m c:Nat} (hu:P.underlying s=some (.slice e)) (hz:(P.info? e).bind (·.zero)=some z) (hzc:z.cells=#[z]) (h1:z.oneCell'=true)
    (hx:ev E x=.slice (some ⟨b,o,none⟩) m c) (hm:0<m) (hc:∀ j,j<m→(w.cell? ⟨b,o+j,none⟩).isSome=true) (hf:∀ j,j<m→w.frozen? ⟨b,o+j,none⟩=false)
    (k:∀ w1,Gr (· = b) w w1→w1.heap.size=w.heap.size→L P n ops Q r D E w1):L P n ops Q (⟨none,.call ⟨.builtin .clear,#[x],#[s]⟩,t,p,af,none⟩ :: r) D E w:=by
  have hv:∀ w,(zeroValue e).run P w=.ok z w:=fun w=>by
    cases hi:P.info? e with
    | none=>simp [hi] at hz
    | some i=>
      simp [hi] at hz;simp [zeroValue,typeInfo,hi,hz]
  have hrun:=Lib.run_clear_slice (P:=P) w s e t z hu hv hzc h1 b o m c hm hc hf;refine L.valn (v:=.tuple #[]) (w':=w.setCells b o (List.replicate m z)) ?_ (k _ (gr_setCells _ _ _ _) (size_setCells' _ _ _ _));unfold X;simp [execOp,resolve,invoke,builtin,hx,hrun,Result.andThen]
theorem L.mk1 {ops:Array Oper} {r:List Oper} {d:Nat} {x:Operand} {s e t:TypeId} {p:String} {af:Array Edge} {z:Value} {k:IntKind} {i:Int} (c:Nat) (hu:P.underlying s=some (.slice e)) (he:elT P e 1=true) (hz:(P.info? e).bind (·.zero)=some z) (hzc:z.cells=#[z])
    (hx:ev E x=.int k i) (hi:i=(c:Nat)) (hc:c≤400000000000) (hd:Nat.blt d n=true)
    (kk:∀ w1,Box w1 w.heap.size e (List.replicate c z)→Bel w w1→w1.heap.size=w.heap.size+1→L P n ops Q r D (upd E d (.slice (some ⟨w.heap.size,0,none⟩) c c)) w1):
    L P n ops Q (⟨some d,.makeSlice s x x,t,p,af,none⟩ :: r) D E w:=by
  obtain ⟨inf,z',hinf,hz',hs,hzs,hpos,hby⟩:=elT_spec he;have hzz:z'=z:=by rw [hinf] at hz;simp only [Option.bind_some] at hz;rw [hz'] at hz;exact Option.some.inj hz
  subst hzz;subst hi;have hrun:=run_make (P:=P) w s e inf z' hu hinf hz' k k (c:Nat) (c:Nat) om_ om_ (by have:(inf.bytes:Int) * (c:Int)≤200 * (c:Int):=Int.mul_le_mul_of_nonneg_right om_ om_;omega) om_;have hmade:madeCells z'.cells (((c:Nat):Int).toNat * inf.size)=(List.replicate c z').toArray:=by
    rw [hs,hzc];simp [madeCells];apply Array.ext';simp;apply List.ext_getElem
    · simp
    · intro i h1 h2;simp [Nat.mod_one]
  rw [hmade] at hrun;refine L.val (v:=.slice (some ⟨w.heap.size,0,none⟩) c c) (w':=w.alloc (.cells (List.replicate c z').toArray e)) ?_ hd (kk _ (box_alloc _ _ _) (bel_alloc _ _) (by simp));unfold X;simp only [execOp,Sem.run_bind,hx,hrun];simp [Result.andThen]
def LI (F:Fence) (m:Nat) (P:Program) (n:Nat) (ops:Array Oper) (Q:Post) (l:List Oper) (D:List Deferred) (E:Env) (w:World):Prop:=∀ a,Fr D n a E→wpListIn F m P ops (lift n Q) l a w
def WI (F:Fence) (m:Nat) (P:Program) (n:Nat) (c:Code) (Q:Post) (D:List Deferred) (E:Env) (w:World):Prop:=∀ a,Fr D n a E→c.wpIn F m P (lift n Q) a w
section
variable {F:Fence} {m:Nat}
theorem WI.region {id:Nat} {l:List Oper} (h:LI F m P n l.toArray Q l D E w):WI F m P n (.region id l.toArray false) Q D E w:=
  fun a ha=>wpIn_region_lit (h a ha)
theorem WI.block {id:Nat} {c:Code} (h:WI F m P n c (blk id Q) D E w):WI F m P n (.block id c) Q D E w:=by
  intro a ha;refine wpIn_block (wpIn_mono (h a ha) ?_);rintro e a' w' ⟨he,E',hE,hq⟩;cases e <;> simp only [blk,Exit.inBlock] at hq ⊢;case exit id'=>
    by_cases hid:id'=id
    · simp only [hid,if_true] at hq ⊢;exact ⟨by simp,E',hE,hq⟩
    · simp only [hid,if_false] at hq ⊢;exact ⟨by simp,E',hE,hq⟩
  case outgrown=>exact (he rfl).elim
  all_goals exact ⟨by simp,E',hE,hq⟩
theorem LI.nil {ops:Array Oper} (h:Q .normal D E w):LI F m P n ops Q [] D E w:=fun _ ha=>lift_mk (by simp) ha h
theorem LI.val {ops:Array Oper} {r:List Oper} {d:Nat} {op:Op} {t:TypeId} {p:String} {af:Array Edge} {v:Value} {w':World} (hF:∀ f,F.fn f) (hnd:∀ c,op≠.defer c)
    (hx:X P op t E w v w') (hd:Nat.blt d n=true) (k:LI F m P n ops Q r D (upd E d v) w'):LI F m P n ops Q (⟨some d,op,t,p,af,none⟩ :: r) D E w:=by
  intro a ha;unfold wpListIn;rw [if_pos (by simp [Region.wanted])];refine ⟨fun f _=>hF f,?_⟩;rw [Oper.semAt_plain F _ _ (fun c h=>hnd c h),execOp_bare,ha.eval];unfold X at hx;rw [hx];exact k _ (ha.put v hd)
theorem LI.skip {ops:Array Oper} {r:List Oper} {op:Op} {t:TypeId} {p:String} {af:Array Edge} {w':World} (hF:∀ f,F.fn f) (hnd:∀ c,op≠.defer c)
    (hx:Xs P op t E w w') (k:LI F m P n ops Q r D E w'):LI F m P n ops Q (⟨none,op,t,p,af,none⟩ :: r) D E w:=by
  intro a ha;unfold wpListIn;rw [if_pos (by simp [Region.wanted])];refine ⟨fun f _=>hF f,?_⟩;rw [Oper.semAt_plain F _ _ (fun c h=>hnd c h),execOp_bare,ha.eval];unfold Xs at hx;rw [hx];exact k _ (ha.putn _)
theorem LI.yield {ops:Array Oper} {r:List Oper} {d:Nat} {g x:Operand} {tys:Array TypeId} {t:TypeId} {p:String} {af:Array Edge} {l:Nat} {v:Value} {R:Ending→World→Prop} (hF:∀ f,F.fn f) (hdep:F.depth=none)
    (hg:ev E g=.func (.yield l) #[] #[]) (hx:ev E x=v) (hd:Nat.blt d n=true) (hy:YieldAt F (m - 1) P l #[v] w R) (hr:∀ e w',R e w'→∃ u,e=.returned u)
    (k:∀ u w',R (.returned u) w'→LI F m P n ops Q r D (upd E d u) w'):LI F m P n ops Q (⟨some d,.call ⟨.value g,#[x],tys⟩,t,p,af,none⟩ :: r) D E w:=by
  intro a ha;obtain ⟨fn,tmps,assign,body,hrun,hR⟩:=hy;unfold wpListIn;rw [if_pos (by simp [Region.wanted])];refine ⟨fun f _=>hF f,?_⟩;rw [Oper.semAt_plain F _ _ (fun c h=>by cases h),ha.eval];have hrun2:(execOp (ev E) ⟨some d,.call ⟨.value g,#[x],tys⟩,t,p,af,none⟩).run P w=.ok (.round l fn tmps assign body) w:=by
    simp [execOp,resolve,invoke,hg,hx,hrun,go_sem]
  rw [hrun2,Oper.uponIn_round];refine ⟨fun h=>(by rw [hdep] at h;cases h),RoundIn.mono hR ?_⟩;intro e w' hR';obtain ⟨u,rfl⟩:=hr e w' hR';exact k u w' hR' _ (ha.put u hd)
end
theorem W.wide {c:Code} {m:Nat} (h:WI Fence.wide m P n c Q D E w):W P n c Q D E w:=fun a ha=>wpIn_wide.1 (h a ha)
theorem WI.wide {c:Code} {m:Nat} (h:W P n c Q D E w):WI Fence.wide m P n c Q D E w:=fun a ha=>wpIn_wide.2 (h a ha)
def KpB (n₀ : Nat) (A B:World):Prop:=RowKit.Below n₀ A B∧KeepsWalks A B
theorem WI.rangeF {α : Type} {g:Operand} {p d id:Nat} {t:TypeId} {pos:String} {body:Code} {gf:Nat} {lb:Array Value} {enc:α → Value} {n₀ N:Nat} {So Sp:List α → Prop} {w0:World} {m:Nat} (hm:1≤m)
    (hg:ev E g=.func (.func gf) #[] lb) (eg:Go.Proofs.Enters P gf) (hseq:SeqStopsK Fence.wide (m - 1) P gf lb (fun x=>#[enc x]) (KpB n₀) So Sp N w0) (hb0:RowKit.Below w0.heap.size w0 w) (hn0:n₀ ≤ w.heap.size)
    (I:List α → World→Prop) (hI:OwnFrom w.heap.size I) (h0:I [] w) (hp:Nat.blt p n=true) (hd:Nat.blt d n=true)
    (hbody:∀ (l:Nat) (pre:List α) (x:α) (w':World),I pre w'→pre.length<N→WI (Fence.wide.inRound l) (m - 1 - 1) P n body (fun e _ _ w''=>e=.normal∧KeepsOthers w' w''∧KpB n₀ w' w''∧I (pre++[x]) w'') [] (upd (upd E p (enc x)) d (enc x)) w')
    (hdone:∀ (Db:Nat) (xs:List α) (w':World),w.heap.size≤Db→So xs→I xs w'→w'.heap[Db]? = some (.deferred (some []))→Q .normal ({ target:=.collected Db,args:=#[] } :: D) E w'):
    WI Fence.wide m P n (.rangeFunc g #[p] (.region id #[⟨some d,.assign (.tmp p),t,pos,#[],none⟩] false) body) Q D E w:=by
  intro a ha;have hfr:∀ x,Fr [] n ({ tmps:=(a.tmps.setIfInBounds p (enc x)).setIfInBounds d (enc x),defers:=[] }:Act) (upd (upd E p (enc x)) d (enc x)):=fun x=>by
    have h1:Fr [] n ({ tmps:=a.tmps,defers:=[] }:Act) E:=⟨rfl,ha.size,ha.get⟩;exact (h1.put (enc x) hp).put (enc x) hd
  refine wpIn_rangeFunc_ownF rfl hm (by rw [ha.eval];exact hg) trivial eg hseq (fun h k=>⟨h.1.trans k.1,h.2.trans k.2⟩) (fun W l o o' hl h hc hk=>⟨belowK_b hn0 W l o o' hl h hc hk,walksK_b (w:=w) W l o o' hl h hc hk⟩) hb0 (fun _=>rfl) I (fun _ _ _=>False) hI (fun _ _ _ _ _ hs _ _=>hs) h0
    (fun x=>{ tmps:=(a.tmps.setIfInBounds p (enc x)).setIfInBounds d (enc x),defers:=[] }) ?_ ?_ ?_ ?_
  · intro l x w' K hK;refine wpIn_region_lit (l:=[⟨some d,.assign (.tmp p),t,pos,#[],none⟩]) ?_;unfold wpListIn;rw [if_pos (by simp [Region.wanted])];refine ⟨fun f _=>trivial,?_⟩;rw [Oper.semAt_plain _ _ _ (fun c h=>by cases h)];have hv:(Act.mk (a.tmps.setIfInBounds p (enc x)) []).eval (.tmp p)=enc x:=by
      have h1:Fr [] n ({ tmps:=a.tmps,defers:=[] }:Act) E:=⟨rfl,ha.size,ha.get⟩;have h2:=(h1.put (enc x) hp).get p;rw [upd_same] at h2;exact h2
    have hrun:(execOp (Act.mk (a.tmps.setIfInBounds p (enc x)) []).eval ⟨some d,.assign (.tmp p),t,pos,#[],none⟩).run P w'=.ok (.value (enc x)) w':=by
      simp only [execOp];rw [hv];rfl
    simp only [List.zip_toArray,List.zip_cons_cons,List.zip_nil_right,List.foldl_toArray',List.foldl_cons,List.foldl_nil];rw [hrun,Oper.uponIn_value];exact hK
  · intro l pre x w' hi hl;refine wpIn_mono (hbody l pre x w' hi hl _ (hfr x)) ?_;rintro e a' w'' ⟨_,E',_,rfl,h1,h2,h3⟩;exact ⟨h1,h2,h3⟩
  · intro Db xs w' hD hS hi hK;exact lift_mk (by simp) ⟨by rw [← ha.defers],ha.size,ha.get⟩ (hdone Db xs w' hD hS hi hK)
  · intro Db c pre w' _ _ h _;exact h.elim
def finM (res:Env→Value) (Φ : Value→World→Prop):Post:=fun e D E w=>(e=.normal∨e=.ret)∧∃ Db,D=[{ target:=.collected Db,args:=#[] }]∧w.heap[Db]? = some (.deferred (some []))∧Φ (res E) (w.putObj Db (.deferred none))
theorem finM_mk {res:Env→Value} {Φ : Value→World→Prop} {e:Exit} (he:e=.normal∨e=.ret) (h:∃ Db,D=[{ target:=.collected Db,args:=#[] }]∧w.heap[Db]? = some (.deferred (some []))∧Φ (res E) (w.putObj Db (.deferred none))):finM res Φ e D E w:=⟨he,h⟩
theorem ret_of_W_marks {f:FuncId} {fn:Func} {c:Code} {args:Array Value} {Φ : Value→World→Prop} {res:Env→Value}
    (hf:P.funcs[f]? = some fn) (hb:fn.body=some c) (hn:args.size≤fn.ntmps)
    (hres:∀ a E,(∀ t,a.getD t undef=E t)→∀ w,(results fn a).run P w=.ok (res E) w)
    (h:W P fn.ntmps c (finM res Φ) [] (env0 args.toList) w):Ret P f args w Φ := by
  refine callsIn_wide.1 (callsIn_of_wp_marks (n:=2) hf hb trivial (wpIn_wide.2 (wp_mono (h _ (fr0 hn)) ?_)));rintro e a' w' ⟨he,E',hE,h1,Db,hD,hK,hΦ⟩;have key:LeavesInM Fence.wide 2 P fn a'.tmps (fun e w'=>∃ v,e=.returned v∧Φ v w') a'.defers .returning w':=by
    rw [hD];exact ⟨by simp,.inl ⟨_,_,rfl,run_takeDeferred hK,⟨_,hres _ _ hE.get _,_,rfl,hΦ⟩⟩⟩
  rcases h1 with rfl | rfl
  · exact key
  · exact key
end Go.Gx
namespace Go.Gx
variable {n0 base k:Nat} {w w':World} {e:TypeId} {v v' v1 v2:Value}
def ShsOwn (A:Nat→Prop) (w:World) (base:Nat) (e:TypeId) (v:Value) (l:List Sh):Prop:=
  ∃ rows:List (List Value),rows.length=l.length∧Own w base e 5 v l.length rows.flatten∧(∀ i,i<l.length→(rows.getD i []).length=5)∧∀ i,i<l.length→ShC A w (rows.getD i []) (l.getD i default)
theorem ShsOwn.nil {A:Nat→Prop}:ShsOwn A w base e (.slice none 0 0) []:=⟨[],rfl,own_nil,fun i h=>absurd h (by simp),fun i h=>absurd h (by simp)⟩
theorem ShsOwn.own {A:Nat→Prop} {l:List Sh} (h:ShsOwn A w base e v l):∃ xs,Own w base e 5 v l.length xs:=by
  obtain ⟨rows,-,ho,-⟩:=h;exact ⟨_,ho⟩
theorem ShsOwn.lt {A:Nat→Prop} {l:List Sh} (h:ShsOwn A w base e v l) {j:Nat} (hj:some j=v.ownBlock):base≤j∧j<w.heap.size:=by
  obtain ⟨xs,ho⟩:=h.own;exact ho.lt hj
theorem ShsOwn.carryA {A A' R:Nat→Prop} {l:List Sh} (h:ShsOwn A w base e v l) (g:Gr R w w') (hR:∀ j,some j=v.ownBlock→¬ R j) (hRA:∀ j,R j→A j) (hA:∀ j,A' j→A j ):ShsOwn A' w' base e v l:=by
  obtain ⟨rows,h1,h2,h3,h4⟩:=h;exact ⟨rows,h1,h2.carryR g hR,h3,fun i hi=>((h4 i hi).carryR g hRA).mono fun j _ hj=>hA j hj⟩
theorem ShsOwn.carry {A:Nat→Prop} {l:List Sh} (h:ShsOwn A w base e v l) (g:Bel w w'):ShsOwn A w' base e v l:=h.carryA g (fun _ _ f=>f) (fun _ f=>f.elim) (fun _ h=>h)
theorem flat5 {rows:List (List Value)} (h:∀ r∈rows,r.length=5) {i j:Nat} (hj:j<5) (hi:i<rows.length):rows.flatten[i * 5+j]? = (rows.getD i [])[j]? := by
  induction rows generalizing i with
  | nil=>simp at hi
  | cons r rows ih=>
    have hr:=h r (by simp);cases i with
    | zero=>simp [List.getElem?_append_left,hr,hj]
    | succ i=>
      rw [List.flatten_cons,List.getElem?_append_right (by rw [hr];omega),hr,show (i+1) * 5+j - 5=i * 5+j by omega,ih (fun r' h'=>h r' (by simp [h'])) (by simpa using hi)];simp
theorem ShsOwn.done {A A':Nat→Prop} {l:List Sh} (h:ShsOwn A w base e v l) (hl:l.length≤70368744177664) (hA:∀ j,A' j→A j) (hb:∀ j,base≤j→¬ A' j):ShsAt A' w v l:=by
  obtain ⟨rows,h1,h2,h3,h4⟩:=h;rcases h2.open with ⟨rfl,hk,-⟩ | ⟨b,cap,tl,rfl,hbb,hcap,hcm,hbx⟩
  · have hn:l=[]:=List.eq_nil_of_length_eq_zero hk;subst hn;exact ShsAt.nil _ _ _ _ (by simp)
  · refine ⟨some ⟨b,0,none⟩,cap,fun i=>rows.getD i [],rfl,hcap,hcm,hl,⟨fun _=>⟨b,0,rfl,hb b hbb,fun i j hi hj=>?_⟩,h3,fun i hi=>(h4 i hi).mono fun k _ hk=>hA k hk⟩⟩;have hr:∀ r∈rows,r.length=5:=fun r hr=>by
      obtain ⟨i,hi,rfl⟩:=List.getElem_of_mem hr;have:=h3 i om_
      rwa [List.getD_eq_getElem?_getD,List.getElem?_eq_getElem hi] at this
    have hf:=flat5 hr hj (by omega:i<rows.length);have h5:(rows.getD i []).length=5:=h3 i hi;have hv:(rows.getD i [])[j]? = some ((rows.getD i [])[j]'om_):=List.getElem?_eq_getElem om_;show w.cell? ⟨b,0+i * 5+j,none⟩=(rows.getD i [])[j]?;rw [hv] at hf ⊢;have hlt:i * 5+j<rows.flatten.length:=(List.getElem?_eq_some_iff.1 hf).1;rw [show 0+i * 5+j=i * 5+j by omega];exact hbx.cell (by rw [List.getElem?_append_left hlt];exact hf)
theorem strs_done {A:Nat→Prop} {l:List Str} (h:Own w base e 1 v l.length (l.map S)) (hl:l.length≤70368744177664) (hx:∀ x∈l,x.length≤9223372036854775807) (hb:∀ j,base≤j→¬ A j):StrsAt A w v l:=by
  rcases h.open with ⟨rfl,hk,-⟩ | ⟨b,cap,tl,rfl,hbb,hcap,hcm,hbx⟩
  · have hn:l=[]:=List.eq_nil_of_length_eq_zero hk;subst hn;exact StrsAt.nil _ _ _ _ (by simp)
  · refine ⟨_,cap,rfl,hcap,hcm,hl,hx,fun _=>⟨b,0,rfl,hb b hbb,fun i hi=>hbx.cell0 ?_⟩⟩;rw [List.getElem?_append_left (by simpa using hi)];simp [hi]
def Ge (b:Nat) (w:World):Prop:=b≤w.heap.size
theorem Ge.carryR {R:Nat→Prop} {b:Nat} (h:Ge b w) (g:Gr R w w'):Ge b w':=Nat.le_trans h g.size
theorem Ge.carry {b:Nat} (h:Ge b w) (g:Bel w w'):Ge b w':=h.carryR g
theorem own_form {base sz k:Nat} {e:TypeId} {xs:List Value} (h:Own w base e sz v (k+1) xs):∃ b cap,v=.slice (some ⟨b,0,none⟩) (k+1) cap:=by
  rcases h.open with ⟨-,h,-⟩ | ⟨b,cap,tl,rfl,-⟩
  · omega
  · exact ⟨b,cap,rfl⟩
theorem own_one {base sz k:Nat} {e:TypeId} {xs:List Value} (h:Own w base e sz v k xs):v.oneCell'=true:=by
  rcases h.open with ⟨rfl,-⟩ | ⟨_,_,_,rfl,-⟩ <;> rfl
theorem ShRow.elemAt {A:Nat→Prop} {b o:Nat} {row:Nat→List Value} {l:List Sh} (h:ShRow A w (some ⟨b,o,none⟩) row l) {i:Nat} (hi:i<l.length):∀ j,j<5→w.cell? ⟨b,o+i * 5+j,none⟩=(row i)[j]? := by
  obtain ⟨b',o',e,hc⟩:=h.elem hi;simp only [Option.some.injEq,Addr.mk.injEq] at e;intro j hj;rw [e.1,e.2.1];exact hc j hj
theorem own_shape {w:World} {base sz k:Nat} {e:TypeId} {v:Value} {xs:List Value} (h:Own w base e sz v k xs):∃ a c,v=.slice a k c∧k≤c:=by
  rcases h.open with ⟨rfl,rfl,-⟩ | ⟨b,cap,tl,rfl,-,h1,-⟩
  · exact ⟨none,0,rfl,Nat.le_refl _⟩
  · exact ⟨_,cap,rfl,h1⟩
theorem own_pos {w:World} {base sz k c:Nat} {e:TypeId} {a:Option Addr} {xs:List Value} (h:Own w base e sz (.slice a k c) k xs) (hk:0<k):∃ b,a=some ⟨b,0,none⟩:=by
  rcases h.open with ⟨h1,h2,-⟩ | ⟨b,cap,tl,h1,-⟩
  · omega
  · simp only [Value.slice.injEq] at h1;exact ⟨b,h1.1⟩
theorem own_cell1 {w:World} {base n c b:Nat} {e:TypeId} {l:List Str} (h:Own w base e 1 (.slice (some ⟨b,0,none⟩) n c) n (l.map S)) {j:Nat} (hj:j<l.length):w.cell? ⟨b,0+j,none⟩=some (S (l.getD j [])):=by
  rcases h.open with ⟨h1,-⟩ | ⟨b',cap,tl,h1,-,-,-,hb⟩
  · cases h1
  · simp only [Value.slice.injEq,Option.some.injEq,Addr.mk.injEq] at h1;rw [h1.1.1];refine hb.cell0 ?_;rw [List.getElem?_append_left (by simpa using hj)];simp [hj,List.getD_eq_getElem?_getD]
section
variable {P:Program}
def finR (P:Program) (fn:Func) (Φ : Value→World→Prop):Post:=fun e D E w=>(e=.normal∨e=.ret)∧D=[]∧∃ v,(∀ a:Array Value,(∀ t,a.getD t undef=E t)→(results fn a).run P w=.ok v w)∧Φ v w
theorem finR_mk {fn:Func} {Φ : Value→World→Prop} {e:Exit} {E:Env} {w:World} (he:e=.normal∨e=.ret) (h:∃ v,(∀ a:Array Value,(∀ t,a.getD t undef=E t)→(results fn a).run P w=.ok v w)∧Φ v w):finR P fn Φ e [] E w:=⟨he,rfl,h⟩
theorem ret_of_W_R {f:FuncId} {fn:Func} {c:Code} {args:Array Value} {Φ : Value→World→Prop}
    (hf:P.funcs[f]? = some fn) (hb:fn.body=some c) (hn:args.size≤fn.ntmps) (h:W P fn.ntmps c (finR P fn Φ) [] (env0 args.toList) w):Ret P f args w Φ := by
  refine calls_of_wp hf hb (wp_mono (h _ (fr0 hn)) ?_);rintro e a' w' ⟨he,E',hE,h1,hD,v,hv,hΦ⟩;rcases h1 with rfl | rfl
  · exact ⟨hD,v,hv _ hE.get,_,rfl,hΦ⟩
  · exact ⟨hD,v,hv _ hE.get,_,rfl,hΦ⟩
end
end Go.Gx
namespace Go.Gx
open Go.RowKit
abbrev Thing (α : Type):=(Nat→Prop)→World→List Value→α → Prop
class Car {α : Type} (C:Thing α) (k:outParam Nat):Prop where
  pos:0<k
  len:∀ {A:Nat→Prop} {w:World} {cs:List Value} {x:α},C A w cs x→cs.length=k
  one:∀ {A:Nat→Prop} {w:World} {cs:List Value} {x:α},C A w cs x→∀ v∈cs,v.oneCell'=true
  move:∀ {A A':Nat→Prop} {w w':World} {cs:List Value} {x:α},(∀ (a:Addr) v,¬ A a.block→w.cell? a=some v→w'.cell? a=some v∧¬ A' a.block)→C A w cs x→C A' w' cs x
section
variable {α : Type} {C:Thing α} {A A' R:Nat→Prop} {w w':World} {cs:List Value} {x:α}
theorem Car.carryR {k:Nat} [Car C k] (h:C A w cs x) (g:Gr R w w') (hR:∀ j,R j→A j):C A w' cs x:=Car.move (fun _ _ hA hv=>⟨g.cell hv (fun hr=>hA (hR _ hr)),hA⟩) h
theorem Car.carry {k:Nat} [Car C k] (h:C A w cs x) (g:Bel w w'):C A w' cs x:=Car.carryR h g (fun _ f=>f.elim)
theorem Car.mono {k:Nat} [Car C k] (h:C A w cs x) (hA:∀ b,b<w.heap.size→A' b→A b):C A' w cs x:=Car.move (fun _ _ hn hv=>⟨hv,fun h'=>hn (hA _ (World.block_lt_of_cell? w _ hv) h')⟩) h
theorem Car.up {k:Nat} [Car C k] (h:C A w cs x):C (fun j=>A j∨w.heap.size≤j) w cs x:=Car.mono h fun b hb h'=>h'.resolve_right om_
end
structure RecRow {α : Type} [Inhabited α] (C:Thing α) (k:Nat) (A:Nat→Prop) (w:World) (p:Option Addr) (row:Nat→List Value) (l:List α):Prop where
  at_:l≠[]→∃ b o,p=some ⟨b,o,none⟩∧¬ A b∧∀ i j,i<l.length→j<k→w.cell? ⟨b,o+i * k+j,none⟩=(row i)[j]?
  len:∀ i,i<l.length→(row i).length=k
  each:∀ i,i<l.length→C A w (row i) (l.getD i default)
def RecsAt {α : Type} [Inhabited α] (C:Thing α) (k:Nat) (A:Nat→Prop) (w:World) (v:Value) (l:List α):Prop:=
  ∃ p cap,∃ row:Nat→List Value,v=.slice p l.length cap∧l.length≤cap∧cap≤9223372036854775807∧l.length≤70368744177664∧RecRow C k A w p row l
section
variable {α : Type} [Inhabited α] {C:Thing α} {k:Nat} {A A' R:Nat→Prop} {w w':World} {p:Option Addr} {row:Nat→List Value} {l:List α} {v:Value}
theorem RecRow.elem (h:RecRow C k A w p row l) {i:Nat} (hi:i<l.length):∃ b o,p=some ⟨b,o,none⟩∧¬ A b∧∀ j,j<k→w.cell? ⟨b,o+i * k+j,none⟩=(row i)[j]? := by
  obtain ⟨b,o,hp,hA,hc⟩:=h.at_ (by rintro rfl;simp at hi);exact ⟨b,o,hp,hA,fun j hj=>hc i j hi hj⟩
theorem RecRow.elemAt {b o:Nat} (h:RecRow C k A w (some ⟨b,o,none⟩) row l) {i:Nat} (hi:i<l.length):∀ j,j<k→w.cell? ⟨b,o+i * k+j,none⟩=(row i)[j]? := by
  obtain ⟨b',o',e,-,hc⟩:=h.elem hi;simp only [Option.some.injEq,Addr.mk.injEq] at e;intro j hj;rw [e.1,e.2.1];exact hc j hj
theorem RecRow.cell {b o:Nat} (h:RecRow C k A w (some ⟨b,o,none⟩) row l) {i j:Nat} {u:Value} (hi:i<l.length) (hu:(row i)[j]? = some u):w.cell? ⟨b,o+i * k+j,none⟩=some u:=by
  have hj:=(List.getElem?_eq_some_iff.1 hu).1;rw [h.len i hi] at hj;rw [h.elemAt hi j hj,hu]
variable [Car C k]
theorem RecRow.move (hc:∀ (a:Addr) v,¬ A a.block→w.cell? a=some v→w'.cell? a=some v∧¬ A' a.block) (h:RecRow C k A w p row l):RecRow C k A' w' p row l:=by
  refine ⟨fun hne=>?_,h.len,fun i hi=>Car.move hc (h.each i hi)⟩;obtain ⟨b,o,e,hA,hcell⟩:=h.at_ hne;have h5:∀ i j,i<l.length→j<k→∃ v,(row i)[j]? = some v:=fun i j hi hj=>⟨_,List.getElem?_eq_getElem (by rw [h.len i hi];exact hj)⟩
  refine ⟨b,o,e,?_,fun i j hi hj=>?_⟩
  · have h0:0<l.length:=List.length_pos_iff.2 hne;have hk:0<k:=Car.pos C;obtain ⟨v,hv⟩:=h5 0 0 h0 hk;exact (hc ⟨b,o+0 * k+0,none⟩ v hA (by rw [hcell 0 0 h0 hk,hv])).2
  · obtain ⟨v,hv⟩:=h5 i j hi hj;rw [hv];exact (hc _ v hA (by rw [hcell i j hi hj,hv])).1
theorem RecRow.carryR (h:RecRow C k A w p row l) (g:Gr R w w') (hR:∀ j,R j→A j):RecRow C k A w' p row l:=h.move fun _ _ hA hv=>⟨g.cell hv (fun hr=>hA (hR _ hr)),hA⟩
theorem RecRow.carry (h:RecRow C k A w p row l) (g:Bel w w'):RecRow C k A w' p row l:=h.carryR g (fun _ f=>f.elim)
theorem RecRow.mono (h:RecRow C k A w p row l) (hA:∀ b,b<w.heap.size→A' b→A b):RecRow C k A' w p row l:=h.move fun _ _ hn hv=>⟨hv,fun h'=>hn (hA _ (World.block_lt_of_cell? w _ hv) h')⟩
theorem RecRow.up (h:RecRow C k A w p row l):RecRow C k (fun j=>A j∨w.heap.size≤j) w p row l:=h.mono fun b hb h'=>h'.resolve_right om_
theorem RecsAt.move (hc:∀ (a:Addr) v,¬ A a.block→w.cell? a=some v→w'.cell? a=some v∧¬ A' a.block) (h:RecsAt C k A w v l):RecsAt C k A' w' v l:=by
  obtain ⟨p,cap,row,e,h1,h2,h3,h4⟩:=h;exact ⟨p,cap,row,e,h1,h2,h3,h4.move hc⟩
theorem RecsAt.carryR (h:RecsAt C k A w v l) (g:Gr R w w') (hR:∀ j,R j→A j):RecsAt C k A w' v l:=h.move fun _ _ hA hv=>⟨g.cell hv (fun hr=>hA (hR _ hr)),hA⟩
theorem RecsAt.carry (h:RecsAt C k A w v l) (g:Bel w w'):RecsAt C k A w' v l:=h.carryR g (fun _ f=>f.elim)
theorem RecsAt.mono (h:RecsAt C k A w v l) (hA:∀ b,b<w.heap.size→A' b→A b):RecsAt C k A' w v l:=h.move fun _ _ hn hv=>⟨hv,fun h'=>hn (hA _ (World.block_lt_of_cell? w _ hv) h')⟩
theorem RecsAt.up (h:RecsAt C k A w v l):RecsAt C k (fun j=>A j∨w.heap.size≤j) w v l:=h.mono fun b hb h'=>h'.resolve_right om_
omit [Car C k] in
theorem RecsAt.nil {p:Option Addr} {cap:Nat} (hc:cap≤9223372036854775807):RecsAt C k A w (.slice p 0 cap) ([]:List α):=
  ⟨p,cap,fun _=>[],rfl,by simp,hc,by simp,⟨fun h=>absurd rfl h,fun i h=>absurd h (by simp),fun i h=>absurd h (by simp)⟩⟩
omit [Car C k] in
theorem RecsAt.one (h:RecsAt C k A w v l):v.oneCell'=true:=by obtain ⟨_,_,_,rfl,-⟩:=h;rfl
end
def RecOwn {α : Type} [Inhabited α] (C:Thing α) (k:Nat) (A:Nat→Prop) (w:World) (base:Nat) (e:TypeId) (v:Value) (l:List α):Prop:=
  ∃ rows:List (List Value),rows.length=l.length∧Own w base e k v l.length rows.flatten∧(∀ i,i<l.length→(rows.getD i []).length=k)∧∀ i,i<l.length→C A w (rows.getD i []) (l.getD i default)
theorem flatk {k:Nat} {rows:List (List Value)} (h:∀ r∈rows,r.length=k) {i j:Nat} (hj:j<k) (hi:i<rows.length):rows.flatten[i * k+j]? = (rows.getD i [])[j]? := by
  induction rows generalizing i with
  | nil=>simp at hi
  | cons r rows ih=>
    have hr:=h r (by simp);cases i with
    | zero=>simp [List.getElem?_append_left,hr,hj]
    | succ i=>
      have e:(i+1) * k+j=i * k+j+k:=by rw [Nat.add_mul,Nat.one_mul];omega
      rw [List.flatten_cons,List.getElem?_append_right (by rw [hr,e];omega),hr,e,Nat.add_sub_cancel,ih (fun r' h'=>h r' (by simp [h'])) (by simpa using hi)];simp
section
variable {α : Type} [Inhabited α] {C:Thing α} {k base:Nat} {e:TypeId} {A A' R:Nat→Prop} {w w':World} {l:List α} {v v':Value}
theorem RecOwn.nil:RecOwn C k A w base e (.slice none 0 0) ([]:List α):=⟨[],rfl,own_nil,fun i h=>absurd h (by simp),fun i h=>absurd h (by simp)⟩
theorem RecOwn.own (h:RecOwn C k A w base e v l):∃ xs,Own w base e k v l.length xs:=by
  obtain ⟨rows,-,ho,-⟩:=h;exact ⟨_,ho⟩
theorem RecOwn.lt (h:RecOwn C k A w base e v l) {j:Nat} (hj:some j=v.ownBlock):base≤j∧j<w.heap.size:=by
  obtain ⟨xs,ho⟩:=h.own;exact Own.lt ho hj
theorem RecOwn.one (h:RecOwn C k A w base e v l):v.oneCell'=true:=by obtain ⟨xs,ho⟩:=h.own;exact own_one ho
theorem RecOwn.shape (h:RecOwn C k A w base e v l):∃ a c,v=.slice a l.length c∧l.length≤c:=by obtain ⟨xs,ho⟩:=h.own;exact own_shape ho
variable [Car C k]
theorem RecOwn.carryA (h:RecOwn C k A w base e v l) (g:Gr R w w') (hR:∀ j,some j=v.ownBlock→¬ R j) (hRA:∀ j,R j→A j) (hA:∀ j,A' j→A j):RecOwn C k A' w' base e v l:=by
  obtain ⟨rows,h1,h2,h3,h4⟩:=h;exact ⟨rows,h1,Own.carryR h2 g hR,h3,fun i hi=>Car.mono (Car.carryR (h4 i hi) g hRA) fun j _ hj=>hA j hj⟩
theorem RecOwn.carry (h:RecOwn C k A w base e v l) (g:Bel w w'):RecOwn C k A w' base e v l:=h.carryA g (fun _ _ f=>f) (fun _ f=>f.elim) (fun _ h=>h)
theorem RecOwn.done (h:RecOwn C k A w base e v l) (hl:l.length≤70368744177664) (hA:∀ j,A' j→A j) (hb:∀ j,base≤j→¬ A' j):RecsAt C k A' w v l:=by
  obtain ⟨rows,h1,h2,h3,h4⟩:=h;rcases Own.open h2 with ⟨rfl,hk,-⟩ | ⟨b,cap,tl,rfl,hbb,hcap,hcm,hbx⟩
  · have hn:l=[]:=List.eq_nil_of_length_eq_zero hk;subst hn;exact RecsAt.nil (by simp)
  · refine ⟨some ⟨b,0,none⟩,cap,fun i=>rows.getD i [],rfl,hcap,hcm,hl,⟨fun _=>⟨b,0,rfl,hb b hbb,fun i j hi hj=>?_⟩,h3,fun i hi=>Car.mono (h4 i hi) fun j _ hj=>hA j hj⟩⟩;have hr:∀ r∈rows,r.length=k:=fun r hr=>by
      obtain ⟨i,hi,rfl⟩:=List.getElem_of_mem hr;have:=h3 i om_
      rwa [List.getD_eq_getElem?_getD,List.getElem?_eq_getElem hi] at this
    have hf:=flatk hr hj (by omega:i<rows.length);have h5:(rows.getD i []).length=k:=h3 i hi;have hv:(rows.getD i [])[j]? = some ((rows.getD i [])[j]'om_):=List.getElem?_eq_getElem om_;show w.cell? ⟨b,0+i * k+j,none⟩=(rows.getD i [])[j]?;rw [hv] at hf ⊢;have hlt:i * k+j<rows.flatten.length:=(List.getElem?_eq_some_iff.1 hf).1;rw [Nat.zero_add];exact hbx.cell (by rw [List.getElem?_append_left hlt];exact hf)
omit [Car C k] in
theorem recs_of_box {b:Nat} {t:TypeId} (rows:List (List Value)) (l:List α) (h:Box w b t rows.flatten) (hA:¬ A b) (hl:l.length≤70368744177664) (hr:rows.length=l.length)
    (h3:∀ i,i<l.length→(rows.getD i []).length=k) (h4:∀ i,i<l.length→C A w (rows.getD i []) (l.getD i default)):RecsAt C k A w (.slice (some ⟨b,0,none⟩) l.length l.length) l:=by
  refine ⟨some ⟨b,0,none⟩,l.length,fun i=>rows.getD i [],rfl,Nat.le_refl _,by omega,hl,⟨fun _=>⟨b,0,rfl,hA,fun i j hi hj=>?_⟩,h3,h4⟩⟩;have hr:∀ r∈rows,r.length=k:=fun r hr=>by
    obtain ⟨i,hi,rfl⟩:=List.getElem_of_mem hr;have:=h3 i om_
    rwa [List.getD_eq_getElem?_getD,List.getElem?_eq_getElem hi] at this
  have hf:=flatk hr hj (by omega:i<rows.length);have h5:(rows.getD i []).length=k:=h3 i hi;have hv:(rows.getD i [])[j]? = some ((rows.getD i [])[j]'om_):=List.getElem?_eq_getElem om_;show w.cell? ⟨b,0+i * k+j,none⟩=(rows.getD i [])[j]?;rw [hv] at hf ⊢;exact h.cell0 hf |> fun e=>by rw [← e];congr 2;omega
end
end Go.Gx
