/- How data lie in memory, and what a step of a call leaves alone. Conditions: none. -/
import Derived.SizedLaws
import Derived.Deep.Slices
import Derived.ProofKit
import Derived.Great.BuildSlice
import Derived.Test.YtdklfpoofgagmaaGreatQbWp
namespace Go.Gx
open Go.RowKit
structure Gr (R:Nat→Prop) (a b:World):Prop where
  os:b.os=a.os
  tape:b.tape=a.tape
  output:b.output=a.output
  size:a.heap.size≤b.heap.size
  block:∀ k,k<a.heap.size→¬ R k→b.heap[k]? = a.heap[k]?
abbrev Bel (a b:World):Prop:=Gr (fun _=>False) a b
theorem Gr.refl (R:Nat→Prop) (a:World):Gr R a a:=⟨rfl,rfl,rfl,Nat.le_refl _,fun _ _ _=>rfl⟩
theorem Gr.trans {R:Nat→Prop} {a b c:World} (h:Gr R a b) (k:Gr R b c):Gr R a c:=
  ⟨k.os.trans h.os,k.tape.trans h.tape,k.output.trans h.output,Nat.le_trans h.size k.size,fun i hi hR=>(k.block i (Nat.lt_of_lt_of_le hi h.size) hR).trans (h.block i hi hR)⟩
theorem Gr.mono {R R':Nat→Prop} {a b:World} (h:Gr R a b) (hR:∀ k,k<a.heap.size→R k→R' k):Gr R' a b:=
  ⟨h.os,h.tape,h.output,h.size,fun k hk hn=>h.block k hk (fun hr=>hn (hR k hk hr))⟩
theorem Gr.step {R:Nat→Prop} {a b c:World} (h:Bel a b) (k:Gr R b c) (hR:∀ i,i<a.heap.size→¬ R i):Bel a c:=
  ⟨k.os.trans h.os,k.tape.trans h.tape,k.output.trans h.output,Nat.le_trans h.size k.size,fun i hi hn=>(k.block i (Nat.lt_of_lt_of_le hi h.size) (hR i hi)).trans (h.block i hi hn)⟩
theorem Gr.carry {R:Nat→Prop} {a b c:World} (h:Gr R a b) (k:Bel b c):Gr R a c:=h.trans (k.mono fun _ _ f=>f.elim)
theorem Bel.below {a b:World} (h:Bel a b):Below a.heap.size a b:=⟨h.os,h.tape,h.output,h.size,fun k hk=>h.block k hk (fun f=>f)⟩
theorem bel_of {a b:World} (h:Below a.heap.size a b):Bel a b:=⟨h.os,h.tape,h.output,h.size,fun k hk _=>h.block k hk⟩
theorem gr_of {a b:World} {row:Option Nat} (h:a.grownBy b row):Gr (fun k=>row=some k) a b:=
  ⟨h.os,h.tape,h.output,h.size,fun k hk hn=>h.block k hk (fun e=>hn e.symm)⟩
theorem bel_alloc (w:World) (o:Obj):Bel w (w.alloc o):=
  ⟨rfl,rfl,rfl,by simp,fun k hk _=>Below.heap_alloc w o k hk⟩
theorem bel_drew (w:World):Bel w w.drew:=⟨rfl,rfl,rfl,Nat.le_refl _,fun _ _ _=>rfl⟩
theorem gr_setCell (w:World) (a:Addr) (u:Value):Gr (· = a.block) w (w.setCell a u):=
  ⟨rfl,rfl,rfl,by simp,fun k _ hn=>Below.heap_setCell w a u k hn⟩
theorem Gr.cell {R:Nat→Prop} {a b:World} (h:Gr R a b) {p:Addr} {v:Value} (hv:a.cell? p=some v) (hn:¬ R p.block):b.cell? p=some v:=by
  rw [← hv];exact World.cell?_of_block (h.block _ (World.block_lt_of_cell? a p hv) hn)
theorem Gr.keep {a b:World} (h:Bel a b) {p:Addr} {v:Value} (hv:a.cell? p=some v):b.cell? p=some v:=h.cell hv (fun f=>f)
theorem Gr.keepRow {a b:World} (h:Bel a b) {bl o k:Nat} {vs:List Value} (hl:vs.length=k) (hc:∀ j,j<k→a.cell? ⟨bl,o+j,none⟩=vs[j]?):∀ j,j<k→b.cell? ⟨bl,o+j,none⟩=vs[j]? := fun j hj=>by
  have hv:=List.getElem?_eq_getElem (l:=vs) (i:=j) om_;rw [hv];exact h.keep (by rw [hc j hj,hv])
theorem W.drawB {P:Program} {n:Nat} {Q:Post} {D:List Deferred} {E:Env} {w:World} {id:Nat} {l:List Oper} (hm:P.follows .mixedOrders=true) (hB:Region.lexB .any l.toArray=true)
    (h:LQ P n l.toArray (Bel w) (fun E'=>∀ w',Bel w w'→Q .normal D E' w') l D E):W P n (.region id l.toArray true) Q D E w:=W.draw (Bel w) hm hB (bel_drew w) h
theorem Gr.set {R:Nat→Prop} {a b c:World} {k:Nat} (h:Gr R a b) (g:Gr (· = k) b c) (hk:a.heap.size≤k):Gr R a c:=
  ⟨g.os.trans h.os,g.tape.trans h.tape,g.output.trans h.output,Nat.le_trans h.size g.size,fun i hi hn=>(g.block i (Nat.lt_of_lt_of_le hi h.size) om_).trans (h.block i hi hn)⟩
def Box (w:World) (b:Nat) (t:TypeId) (cs:List Value):Prop:=w.heap[b]? = some (.cells cs.toArray t (0,0))
theorem Box.lt {w:World} {b:Nat} {t:TypeId} {cs:List Value} (h:Box w b t cs):b<w.heap.size:=by
  unfold Box at h;exact (Array.getElem?_eq_some_iff.1 h).1
theorem Box.carryR {R:Nat→Prop} {w w':World} {b:Nat} {t:TypeId} {cs:List Value} (h:Box w b t cs) (g:Gr R w w') (hn:¬ R b):Box w' b t cs:=by
  unfold Box;rw [g.block b h.lt hn];exact h
theorem Box.carry {w w':World} {b:Nat} {t:TypeId} {cs:List Value} (h:Box w b t cs) (g:Bel w w'):Box w' b t cs:=h.carryR g (fun f=>f)
theorem Box.cell {w:World} {b:Nat} {t:TypeId} {cs:List Value} (h:Box w b t cs) {i:Nat} {v:Value} (hv:cs[i]? = some v):w.cell? ⟨b,i,none⟩=some v:=by
  unfold Box at h;simp [World.cell?,h,hv]
theorem Box.cell0 {w:World} {b:Nat} {t:TypeId} {cs:List Value} (h:Box w b t cs) {i:Nat} {v:Value} (hv:cs[i]? = some v):w.cell? ⟨b,0+i,none⟩=some v:=by
  rw [Nat.zero_add];exact h.cell hv
theorem Box.row {w:World} {b:Nat} {t:TypeId} {cs:List Value} (h:Box w b t cs) {k:Nat} (_hl:cs.length=k):∀ j,j<k→w.cell? ⟨b,0+j,none⟩=cs[j]? := fun j hj=>by
  rw [List.getElem?_eq_getElem om_];exact h.cell0 (List.getElem?_eq_getElem om_)
theorem Box.free {w:World} {b:Nat} {t:TypeId} {cs:List Value} (h:Box w b t cs) (i:Nat):w.frozen? ⟨b,i,none⟩=false:=by
  unfold Box at h;simp [World.frozen?,h]
theorem Box.set {w:World} {b:Nat} {t:TypeId} {cs:List Value} (h:Box w b t cs) (i:Nat) (v:Value):Box (w.setCell ⟨b,i,none⟩ v) b t (cs.set i v):=by
  unfold Box at h ⊢;simp [World.setCell,Array.getElem?_modify,h]
theorem box_alloc (w:World) (t:TypeId) (cs:List Value):Box (w.alloc (.cells cs.toArray t)) w.heap.size t cs:=by
  unfold Box;show (w.heap.push _)[w.heap.size]? = _;rw [Array.getElem?_push,if_pos rfl]
section
variable {P:Program} {n:Nat} {Q:Post} {D:List Deferred} {E:Env} {w:World}
theorem L.box {ops:Array Oper} {r:List Oper} {d:Nat} {x:Operand} {s t:TypeId} {p:String} {af:Array Edge} {cs:List Value} (hx:(ev E x).cells=cs.toArray) (hd:Nat.blt d n=true)
    (k:∀ w1,Box w1 w.heap.size s cs→Bel w w1→w1.heap.size=w.heap.size+1→L P n ops Q r D (upd E d (.pointer (some ⟨w.heap.size,0,none⟩))) w1):L P n ops Q (⟨some d,.box s x,t,p,af,none⟩ :: r) D E w:=
  L.val (x_box (v:=ev E x) rfl) hd (k _ (by rw [hx];exact box_alloc _ _ _) (bel_alloc _ _) (by simp))
theorem L.alloc {ops:Array Oper} {r:List Oper} {d:Nat} {s t:TypeId} {p:String} {af:Array Edge} {z:Value} {cs:List Value} (hz:(P.info? s).bind (·.zero)=some z) (hc:z.cells=cs.toArray) (hd:Nat.blt d n=true)
    (k:∀ w1,Box w1 w.heap.size s cs→Bel w w1→w1.heap.size=w.heap.size+1→L P n ops Q r D (upd E d (.pointer (some ⟨w.heap.size,0,none⟩))) w1):L P n ops Q (⟨some d,.alloc s,t,p,af,none⟩ :: r) D E w:=
  L.val (x_alloc hz) hd (k _ (by rw [hc];exact box_alloc _ _ _) (bel_alloc _ _) (by simp))
theorem L.set {ops:Array Oper} {r:List Oper} {x y:Operand} {s t:TypeId} {p:String} {af:Array Edge} {b i:Nat} {T:TypeId} {cs:List Value} {v:Value} (hs:(P.info? s).map (·.size)=some 1)
    (hx:ev E x=.pointer (some ⟨b,i,none⟩)) (hy:ev E y=v) (h1:v.oneCell'=true) (hb:Box w b T cs) (hi:Nat.blt i cs.length=true)
    (k:∀ w1,Box w1 b T (cs.set i v)→Gr (· = b) w w1→w1.heap.size=w.heap.size→L P n ops Q r D E w1):L P n ops Q (⟨none,.store s x y,t,p,af,none⟩ :: r) D E w:=by
  have hi':i<cs.length:=by simpa [Nat.blt_eq] using hi
  exact L.skip (x_st hs hx hy h1 (hb.cell (List.getElem?_eq_getElem hi')) (hb.free i)) (k _ (hb.set i v) (gr_setCell w ⟨b,i,none⟩ v) (by simp))
end
def inR (lo hi t:Nat):Bool:=Nat.ble lo t && Nat.ble t hi
def jnk (lo hi:Nat) (J E:Env):Env:=fun t=>bif inR lo hi t then J t else E t
def jeq (lo hi:Nat) (E E':Env):Prop:=∀ t,inR lo hi t=false→E' t=E t
theorem jeq.refl (lo hi:Nat) (E:Env):jeq lo hi E E:=fun _ _=>rfl
theorem jeq.upd {lo hi k:Nat} {E E':Env} {v:Value} (hk:inR lo hi k=true) (h:jeq lo hi E E'):jeq lo hi E (upd E' k v):=fun t ht=>by
  rw [upd_ne _ _ (fun e=>by subst e;rw [hk] at ht;cases ht)];exact h t ht
theorem inR_iff {lo hi t:Nat}:inR lo hi t=true↔lo≤t∧t≤hi:=by
  simp [inR]
theorem jeq.jk {lo hi lo' hi':Nat} {J E E':Env} (h1:Nat.ble lo lo'=true) (h2:Nat.ble hi' hi=true) (h:jeq lo hi E E'):jeq lo hi E (jnk lo' hi' J E'):=fun t ht=>by
  have a1:=Nat.le_of_ble_eq_true h1;have a2:=Nat.le_of_ble_eq_true h2;have:inR lo' hi' t=false:=by
    cases hh:inR lo' hi' t
    · rfl
    · have:=inR_iff.1 hh;rw [inR_iff.2 ⟨by omega,by omega⟩] at ht;cases ht
  simp only [jnk,this,cond_false];exact h t ht
theorem jeq.eq {lo hi:Nat} {E E':Env} (h:jeq lo hi E E'):E'=jnk lo hi E' E:=by
  funext t;unfold jnk;cases ht:inR lo hi t
  · exact h t ht
  · rfl
section
variable {P:Program} {n:Nat} {Q:Post} {D:List Deferred} {E:Env} {w:World}
theorem L.mono {ops:Array Oper} {l:List Oper} {Q':Post} (h:L P n ops Q l D E w) (hq:∀ e D E w,Q e D E w→Q' e D E w):L P n ops Q' l D E w:=by
  suffices H:∀ (l:List Oper) (a:Act) (w:World),wpList P ops (lift n Q) l a w→wpList P ops (lift n Q') l a w from fun a ha=>H l a w (h a ha)
  have hl:∀ e a w,lift n Q e a w→lift n Q' e a w:=fun e a w ⟨h1,E',h2,h3⟩=>⟨h1,E',h2,hq _ _ _ _ h3⟩
  intro l;induction l with
  | nil=>intro a w h;exact hl _ _ _ h
  | cons o r ih=>
    intro a w h;unfold wpList at h ⊢;split
    · rename_i hw;rw [if_pos hw] at h
      rcases h with h | ⟨_,a',w',h⟩
      · refine .inl ?_;unfold Oper.wp at h ⊢;generalize (execOp a.eval o).run P w=res at h ⊢;cases res with
        | ok x w'=>
          cases x <;> simp only [Oper.upon] at h ⊢ <;> try exact ih _ _ h
          · refine h.mono fun e w'' h=>?_
            cases e with
            | returned v=>exact ih _ _ h
            | panicked c=>exact hl _ _ _ h
            | outgrown=>obtain ⟨a',w',h⟩:=h;exact absurd rfl h.1
          · exact h.mono fun v w'' h=>ih _ _ h
        | halt x w'=>cases x <;> simp only [Oper.upon] at h ⊢ <;> try exact hl _ _ _ h
      · exact absurd rfl h.1
    · rename_i hw;rw [if_neg hw] at h;exact ih _ _ h
theorem wpList_app {ops:Array Oper} {Q:Exit→Act→World→Prop}:∀ (l r:List Oper) (a:Act) (w:World),
    wpList P ops (Exit.then (wpList P ops Q r) Q) l a w→wpList P ops Q (l++r) a w:=by
  intro l;induction l with
  | nil=>intro r a w h;exact h
  | cons o l ih=>
    intro r a w h;rw [List.cons_append];unfold wpList at h ⊢;split
    · rename_i hw;rw [if_pos hw] at h
      rcases h with h | ⟨h1,h2⟩
      · refine .inl ?_;unfold Oper.wp at h ⊢;generalize (execOp a.eval o).run P w=res at h ⊢;cases res with
        | ok x w'=>
          cases x <;> simp only [Oper.upon] at h ⊢ <;> try exact ih _ _ _ h
          · refine h.mono fun e w'' h=>?_
            cases e with
            | returned v=>exact ih _ _ _ h
            | panicked c=>exact h
            | outgrown=>exact h
          · exact h.mono fun v w'' h=>ih _ _ _ h
        | halt x w'=>cases x <;> simp only [Oper.upon] at h ⊢ <;> try exact h
      · exact .inr ⟨h1,h2⟩
    · rename_i hw;rw [if_neg hw] at h;exact ih _ _ _ h
theorem L.cut {ops:Array Oper} {l:List Oper} (k:Nat) {I:List Deferred→Env→World→Prop} (h:L P n ops (thn I Q) (l.take k) D E w) (hk:∀ D E w,I D E w→L P n ops Q (l.drop k) D E w):L P n ops Q l D E w:=by
  intro a ha;rw [← List.take_append_drop k l];refine wpList_app _ _ _ _ ?_;have h1:=(h.mono (Q':=thn (fun D E w=>L P n ops Q (l.drop k) D E w) Q) fun e D E w hq=>by cases e <;> first | exact hk _ _ _ hq | exact hq) a ha
  suffices H:∀ (l':List Oper) (a:Act) (w:World),wpList P ops (lift n (thn (fun D E w=>L P n ops Q (l.drop k) D E w) Q)) l' a w→wpList P ops (Exit.then (wpList P ops (lift n Q) (l.drop k)) (lift n Q)) l' a w from H _ _ _ h1
  have hl:∀ e a w,lift n (thn (fun D E w=>L P n ops Q (l.drop k) D E w) Q) e a w→Exit.then (wpList P ops (lift n Q) (l.drop k)) (lift n Q) e a w:=by
    intro e a w ⟨h1,E',h2,h3⟩;cases e <;> simp only [thn,Exit.then] at h3 ⊢;case normal=>exact h3 a h2
    case outgrown=>exact absurd rfl h1
    all_goals exact ⟨by simp,E',h2,h3⟩
  intro l';induction l' with
  | nil=>intro a w h;exact hl _ _ _ h
  | cons o r ih=>
    intro a w h;unfold wpList at h ⊢;split
    · rename_i hw;rw [if_pos hw] at h
      rcases h with h | ⟨_,a',w',h⟩
      · refine .inl ?_;unfold Oper.wp at h ⊢;generalize (execOp a.eval o).run P w=res at h ⊢;cases res with
        | ok x w'=>
          cases x <;> simp only [Oper.upon] at h ⊢ <;> try exact ih _ _ h
          · refine h.mono fun e w'' h=>?_
            cases e with
            | returned v=>exact ih _ _ h
            | panicked c=>exact hl _ _ _ h
            | outgrown=>obtain ⟨a',w',h⟩:=h;exact absurd rfl h.1
          · exact h.mono fun v w'' h=>ih _ _ h
        | halt x w'=>cases x <;> simp only [Oper.upon] at h ⊢ <;> try exact hl _ _ _ h
      · exact absurd rfl h.1
    · rename_i hw;rw [if_neg hw] at h;exact ih _ _ h
theorem L.group0 {ops:Array Oper} {l:List Oper} (k lo hi y dj:Nat) {b:Bool} (want:Bool) {v0:Bool} (_:E dj=.bool b)
    (hyes:b=want→L P n ops (thn (fun D' E' w'=>w'=w∧D'=D∧jeq lo hi E E'∧E' y=.bool v0) Q) (l.take k) D E w)
    (hno:b=(!want)→L P n ops (thn (fun D' E' w'=>w'=w∧D'=D∧jeq lo hi E E') Q) (l.take k) D E w)
    (kont:∀ J,(b=want→J y=.bool v0)→L P n ops Q (l.drop k) D (jnk lo hi J E) w):L P n ops Q l D E w:=by
  refine L.cut (I:=fun D' E' w'=>w'=w∧D'=D∧jeq lo hi E E'∧(b=want→E' y=.bool v0)) k ?_ ?_
  · by_cases hb:b=want
    · exact (hyes hb).mono fun e D E w hq=>by cases e <;> first | exact hq | exact ⟨hq.1,hq.2.1,hq.2.2.1,fun _=>hq.2.2.2⟩
    · exact (hno (by cases b <;> cases want <;> simp_all)).mono fun e D E w hq=>by cases e <;> first | exact hq | exact ⟨hq.1,hq.2.1,hq.2.2,fun h=>absurd h hb⟩
  · rintro D' E' w' ⟨rfl,rfl,hj,ho⟩;rw [hj.eq];exact kont _ ho
theorem x_or {c y:Operand} {t:TypeId} {b v:Bool} (hc:ev E c=.bool b) (hy:b=false→ev E y=.bool v):X P (.pick c (.const (.bool true)) y) t E w (.bool (b || v)) w:=by
  cases b
  · exact x_pick_f hc (hy rfl)
  · exact x_pick_t hc rfl
theorem x_and {c y:Operand} {t:TypeId} {b v:Bool} (hc:ev E c=.bool b) (hy:b=true→ev E y=.bool v):X P (.pick c y (.const (.bool false))) t E w (.bool (b && v)) w:=by
  cases b
  · exact x_pick_f hc rfl
  · exact x_pick_t hc (hy rfl)
end
def StrsAt (A:Nat→Prop) (w:World) (v:Value) (l:List Str):Prop:=
  ∃ p cap,v=.slice p l.length cap∧l.length≤cap∧cap≤9223372036854775807∧l.length≤70368744177664∧(∀ x∈l,x.length≤9223372036854775807)∧
    (l≠[]→∃ b o,p=some ⟨b,o,none⟩∧¬ A b∧∀ i,i<l.length→w.cell? ⟨b,o+i,none⟩=some (S (l.getD i [])))
theorem StrsAt.carryR {A R:Nat→Prop} {w w':World} {v:Value} {l:List Str} (h:StrsAt A w v l) (g:Gr R w w') (hR:∀ k,R k→A k):StrsAt A w' v l:=by
  obtain ⟨p,cap,hv,h1,h2,h3,hx,h4⟩:=h;refine ⟨p,cap,hv,h1,h2,h3,hx,fun hl=>?_⟩;obtain ⟨b,o,hp,hA,hc⟩:=h4 hl;exact ⟨b,o,hp,hA,fun i hi=>g.cell (hc i hi) (fun hr=>hA (hR _ hr))⟩
theorem StrsAt.carry {A:Nat→Prop} {w w':World} {v:Value} {l:List Str} (h:StrsAt A w v l) (g:Bel w w'):StrsAt A w' v l:=h.carryR g (fun _ f=>f.elim)
theorem StrsAt.mono {A A':Nat→Prop} {w:World} {v:Value} {l:List Str} (h:StrsAt A w v l) (hA:∀ b,b<w.heap.size→A' b→A b):StrsAt A' w v l:=by
  obtain ⟨p,cap,hv,h1,h2,h3,hx,h4⟩:=h;refine ⟨p,cap,hv,h1,h2,h3,hx,fun hl=>?_⟩;obtain ⟨b,o,hp,hA',hc⟩:=h4 hl;refine ⟨b,o,hp,fun ha=>hA' (hA b ?_ ha),hc⟩;cases l with
  | nil=>exact absurd rfl hl
  | cons x l=>exact World.block_lt_of_cell? w _ (hc 0 (by simp))
theorem StrsAt.elem {A:Nat→Prop} {w:World} {p:Option Addr} {n cap:Nat} {l:List Str} (h:StrsAt A w (.slice p n cap) l) {i:Nat} (hi:i<l.length):
    ∃ b o,p=some ⟨b,o,none⟩∧w.cell? ⟨b,o+i,none⟩=some (S (l.getD i [])):=by
  obtain ⟨p',cap',hv,-,-,-,-,h4⟩:=h;obtain ⟨b,o,hp,-,hc⟩:=h4 (by rintro rfl;simp at hi);simp only [Value.slice.injEq] at hv;exact ⟨b,o,hv.1.trans hp,hc i hi⟩
theorem StrsAt.elemAt {A:Nat→Prop} {w:World} {b o n cap:Nat} {l:List Str} (h:StrsAt A w (.slice (some ⟨b,o,none⟩) n cap) l) {i:Nat} (hi:i<l.length):
    w.cell? ⟨b,o+i,none⟩=some (S (l.getD i [])):=by
  obtain ⟨b',o',e,hc⟩:=h.elem hi;simp only [Option.some.injEq,Addr.mk.injEq] at e;rw [e.1,e.2.1];exact hc
theorem StrsAt.nil (A:Nat→Prop) (w:World) (p:Option Addr) (cap:Nat) (hc:cap≤9223372036854775807):StrsAt A w (.slice p 0 cap) []:=⟨p,cap,rfl,by simp,hc,by simp,by simp,fun h=>absurd rfl h⟩
inductive Sh where
  | mk (kind:Int) (of name:Str) (names:List Str) (parts:List Sh)
instance:Inhabited Sh:=⟨.mk 0 [] [] [] []⟩
namespace Sh
def kind:Sh→Int | .mk k _ _ _ _=>k
def of:Sh→Str | .mk _ o _ _ _=>o
def name:Sh→Str | .mk _ _ n _ _=>n
def names:Sh→List Str | .mk _ _ _ l _=>l
def parts:Sh→List Sh | .mk _ _ _ _ l=>l
end Sh
inductive ShC (A:Nat→Prop) (w:World):List Value→Sh→Prop
  | mk {k:Int} {of nm:Str} {names:List Str} {parts:List Sh} {vn:Value} {p:Option Addr} {cap:Nat} (row:Nat→List Value)
      (hn:StrsAt A w vn names) (ho:of.length≤9223372036854775807) (hm:nm.length≤9223372036854775807) (h1:parts.length≤cap) (h2:cap≤9223372036854775807) (h3:parts.length≤70368744177664)
      (hp:parts≠[]→∃ b o,p=some ⟨b,o,none⟩∧¬ A b∧∀ i j,i<parts.length→j<5→w.cell? ⟨b,o+i * 5+j,none⟩=(row i)[j]?)
      (hl:∀ i,i<parts.length→(row i).length=5)
      (hs:∀ i,i<parts.length→ShC A w (row i) (parts.getD i default)):
      ShC A w [.int .i64 k,S of,S nm,vn,.slice p parts.length cap] (.mk k of nm names parts)
structure ShRow (A:Nat→Prop) (w:World) (p:Option Addr) (row:Nat→List Value) (l:List Sh):Prop where
  at_:l≠[]→∃ b o,p=some ⟨b,o,none⟩∧¬ A b∧∀ i j,i<l.length→j<5→w.cell? ⟨b,o+i * 5+j,none⟩=(row i)[j]?
  five:∀ i,i<l.length→(row i).length=5
  each:∀ i,i<l.length→ShC A w (row i) (l.getD i default)
def ShsAt (A:Nat→Prop) (w:World) (v:Value) (l:List Sh):Prop:=
  ∃ p cap,∃ row:Nat→List Value,v=.slice p l.length cap∧l.length≤cap∧cap≤9223372036854775807∧l.length≤70368744177664∧ShRow A w p row l
theorem ShRow.elem {A:Nat→Prop} {w:World} {p:Option Addr} {row:Nat→List Value} {l:List Sh} (h:ShRow A w p row l) {i:Nat} (hi:i<l.length):
    ∃ b o,p=some ⟨b,o,none⟩∧∀ j,j<5→w.cell? ⟨b,o+i * 5+j,none⟩=(row i)[j]? := by
  obtain ⟨b,o,hp,-,hc⟩:=h.at_ (by rintro rfl;simp at hi);exact ⟨b,o,hp,fun j hj=>hc i j hi hj⟩
theorem ShC.inv {A:Nat→Prop} {w:World} {cs:List Value} {s:Sh} (h:ShC A w cs s):
    ∃ vn vp,cs=[.int .i64 s.kind,S s.of,S s.name,vn,vp]∧StrsAt A w vn s.names∧ShsAt A w vp s.parts∧s.of.length≤9223372036854775807∧s.name.length≤9223372036854775807:=by
  cases h with
  | mk row hn ho hm h1 h2 h3 hp hl hs=>exact ⟨_,_,rfl,hn,⟨_,_,row,rfl,h1,h2,h3,⟨hp,hl,hs⟩⟩,ho,hm⟩
theorem ShC.intro {A:Nat→Prop} {w:World} {k:Int} {of nm:Str} {names:List Str} {parts:List Sh} {vn vp:Value} (hn:StrsAt A w vn names) (hp:ShsAt A w vp parts) (ho:of.length≤9223372036854775807) (hm:nm.length≤9223372036854775807):
    ShC A w [.int .i64 k,S of,S nm,vn,vp] (.mk k of nm names parts):=by
  obtain ⟨p,cap,row,rfl,h1,h2,h3,⟨hp,hl,hs⟩⟩:=hp;exact .mk row hn ho hm h1 h2 h3 hp hl hs
theorem ShC.move {A A':Nat→Prop} {w w':World} (hc:∀ (a:Addr) v,¬ A a.block→w.cell? a=some v→w'.cell? a=some v∧¬ A' a.block) {cs:List Value} {s:Sh} (h:ShC A w cs s):ShC A' w' cs s:=by
  induction h with
  | mk row hn ho hm h1 h2 h3 hp hl hs ih=>
    rename_i k of nm names parts vn p cap
    refine .mk row ?_ ho hm h1 h2 h3 (fun hne=>?_) hl ih
    · obtain ⟨p',cap',hv,g1,g2,g3,gx,g4⟩:=hn;refine ⟨p',cap',hv,g1,g2,g3,gx,fun hne=>?_⟩;obtain ⟨b,o,e,hA,hcell⟩:=g4 hne;refine ⟨b,o,e,?_,fun i hi=>(hc _ _ hA (hcell i hi)).1⟩;cases names with
      | nil=>exact absurd rfl hne
      | cons x l=>exact (hc _ _ hA (hcell 0 (by simp))).2
    · obtain ⟨b,o,e,hA,hcell⟩:=hp hne;have h5:∀ i j,i<parts.length→j<5→∃ v,(row i)[j]? = some v:=fun i j hi hj=>⟨_,List.getElem?_eq_getElem (by rw [hl i hi];exact hj)⟩
      refine ⟨b,o,e,?_,fun i j hi hj=>?_⟩
      · cases parts with
        | nil=>exact absurd rfl hne
        | cons x l=>
          obtain ⟨v,hv⟩:=h5 0 0 (by simp) om_;exact (hc ⟨b,o+0 * 5+0,none⟩ v hA (by rw [hcell 0 0 (by simp) om_,hv])).2
      · obtain ⟨v,hv⟩:=h5 i j hi hj;rw [hv];exact (hc _ v hA (by rw [hcell i j hi hj,hv])).1
theorem ShC.carryR {A R:Nat→Prop} {w w':World} {cs:List Value} {s:Sh} (h:ShC A w cs s) (g:Gr R w w') (hR:∀ k,R k→A k):ShC A w' cs s:=
  h.move fun _ _ hA hv=>⟨g.cell hv (fun hr=>hA (hR _ hr)),hA⟩
theorem ShC.carry {A:Nat→Prop} {w w':World} {cs:List Value} {s:Sh} (h:ShC A w cs s) (g:Bel w w'):ShC A w' cs s:=h.carryR g (fun _ f=>f.elim)
theorem ShC.mono {A A':Nat→Prop} {w:World} {cs:List Value} {s:Sh} (h:ShC A w cs s) (hA:∀ b,b<w.heap.size→A' b→A b):ShC A' w cs s:=
  h.move fun a _ hn hv=>⟨hv,fun h'=>hn (hA _ (World.block_lt_of_cell? w a hv) h')⟩
theorem ShC.len {A:Nat→Prop} {w:World} {cs:List Value} {s:Sh} (h:ShC A w cs s):cs.length=5:=by cases h;rfl
theorem ShRow.move {A A':Nat→Prop} {w w':World} (hc:∀ (a:Addr) v,¬ A a.block→w.cell? a=some v→w'.cell? a=some v∧¬ A' a.block) {p:Option Addr} {row:Nat→List Value} {l:List Sh} (h:ShRow A w p row l):ShRow A' w' p row l:=by
  refine ⟨fun hne=>?_,h.five,fun i hi=>(h.each i hi).move hc⟩;obtain ⟨b,o,e,hA,hcell⟩:=h.at_ hne;have h5:∀ i j,i<l.length→j<5→∃ v,(row i)[j]? = some v:=fun i j hi hj=>⟨_,List.getElem?_eq_getElem (by rw [h.five i hi];exact hj)⟩
  refine ⟨b,o,e,?_,fun i j hi hj=>?_⟩
  · cases l with
    | nil=>exact absurd rfl hne
    | cons x l=>
      obtain ⟨v,hv⟩:=h5 0 0 (by simp) om_;exact (hc ⟨b,o+0 * 5+0,none⟩ v hA (by rw [hcell 0 0 (by simp) om_,hv])).2
  · obtain ⟨v,hv⟩:=h5 i j hi hj;rw [hv];exact (hc _ v hA (by rw [hcell i j hi hj,hv])).1
theorem ShRow.carryR {A R:Nat→Prop} {w w':World} {p:Option Addr} {row:Nat→List Value} {l:List Sh} (h:ShRow A w p row l) (g:Gr R w w') (hR:∀ k,R k→A k):ShRow A w' p row l:=
  h.move fun _ _ hA hv=>⟨g.cell hv (fun hr=>hA (hR _ hr)),hA⟩
theorem ShRow.carry {A:Nat→Prop} {w w':World} {p:Option Addr} {row:Nat→List Value} {l:List Sh} (h:ShRow A w p row l) (g:Bel w w'):ShRow A w' p row l:=h.carryR g (fun _ f=>f.elim)
theorem ShRow.mono {A A':Nat→Prop} {w:World} {p:Option Addr} {row:Nat→List Value} {l:List Sh} (h:ShRow A w p row l) (hA:∀ b,b<w.heap.size→A' b→A b):ShRow A' w p row l:=
  h.move fun _ _ hn hv=>⟨hv,fun h'=>hn (hA _ (World.block_lt_of_cell? w _ hv) h')⟩
theorem ShsAt.move {A A':Nat→Prop} {w w':World} (hc:∀ (a:Addr) v,¬ A a.block→w.cell? a=some v→w'.cell? a=some v∧¬ A' a.block) {v:Value} {l:List Sh} (h:ShsAt A w v l):ShsAt A' w' v l:=by
  have h1:ShC A w [.int .i64 0,S [],S [],.slice none 0 0,v] (.mk 0 [] [] [] l):=ShC.intro (StrsAt.nil _ _ _ _ (by simp)) h (by simp) (by simp);obtain ⟨vn,vp,e,-,h2,-⟩:=(h1.move hc).inv;simp only [List.cons.injEq,and_true] at e;rw [e.2.2.2.2];exact h2
theorem ShsAt.carryR {A R:Nat→Prop} {w w':World} {v:Value} {l:List Sh} (h:ShsAt A w v l) (g:Gr R w w') (hR:∀ k,R k→A k):ShsAt A w' v l:=
  h.move fun _ _ hA hv=>⟨g.cell hv (fun hr=>hA (hR _ hr)),hA⟩
theorem ShsAt.carry {A:Nat→Prop} {w w':World} {v:Value} {l:List Sh} (h:ShsAt A w v l) (g:Bel w w'):ShsAt A w' v l:=h.carryR g (fun _ f=>f.elim)
theorem ShsAt.mono {A A':Nat→Prop} {w:World} {v:Value} {l:List Sh} (h:ShsAt A w v l) (hA:∀ b,b<w.heap.size→A' b→A b):ShsAt A' w v l:=
  h.move fun a _ hn hv=>⟨hv,fun h'=>hn (hA _ (World.block_lt_of_cell? w a hv) h')⟩
theorem ShC.up {A:Nat→Prop} {w:World} {cs:List Value} {s:Sh} (h:ShC A w cs s):ShC (fun k=>A k∨w.heap.size≤k) w cs s:=h.mono fun b hb h'=>h'.resolve_right om_
theorem ShRow.up {A:Nat→Prop} {w:World} {p:Option Addr} {row:Nat→List Value} {l:List Sh} (h:ShRow A w p row l):ShRow (fun k=>A k∨w.heap.size≤k) w p row l:=h.mono fun b hb h'=>h'.resolve_right om_
theorem StrsAt.up {A:Nat→Prop} {w:World} {v:Value} {l:List Str} (h:StrsAt A w v l):StrsAt (fun k=>A k∨w.heap.size≤k) w v l:=h.mono fun b hb h'=>h'.resolve_right om_
theorem ShsAt.up {A:Nat→Prop} {w:World} {v:Value} {l:List Sh} (h:ShsAt A w v l):ShsAt (fun k=>A k∨w.heap.size≤k) w v l:=h.mono fun b hb h'=>h'.resolve_right om_
theorem ShsAt.nil (A:Nat→Prop) (w:World) (p:Option Addr) (cap:Nat) (hc:cap≤9223372036854775807):ShsAt A w (.slice p 0 cap) []:=
  ⟨p,cap,fun _=>[],rfl,by simp,hc,by simp,⟨fun h=>absurd rfl h,fun i h=>absurd h (by simp),fun i h=>absurd h (by simp)⟩⟩
end Go.Gx
namespace Go.Gx
open Go.ChangeShapes Go.WideShapes Go.Deep
section
variable {H:Type} {enc:TypeId × Value→H} {P:Program} {w:World} {base:Nat} {spare:Nat→Bool} {held:Bool}
theorem weights_at {t:TypeId} {fs:Array Field} {ds:List (DataW H)} {N:Nat} (ht:P.underlying t=some (.struct fs)) (h:((DataW.agg ds).weights P t).all (· ≤ N)=true) {i:Nat} {f:Field} {d:DataW H} (hf:fs[i]? = some f) (hd:ds[i]? = some d):(d.weights P f.type).all (· ≤ N)=true:=by
  have h0:(DataW.agg ds).weights P t=DataW.weightsEach P (fs.toList.map (·.type)) ds:=by simp [DataW.weights,ht]
  rw [h0] at h;rw [List.all_eq_true] at h ⊢;intro n hn;exact h n (DataW.weights_mem_each (t:=f.type) (by simp [hf]) hd n hn)
theorem weightsAll_mem {e:TypeId}:∀ {l:List (DataW H)} {d:DataW H},d∈l→∀ n∈d.weights P e,n∈DataW.weightsAll P e l
  | x :: l,d,hd,n,hn=>by
    rcases List.mem_cons.1 hd with rfl | hd
    · simp only [DataW.weightsAll,List.mem_append];exact .inl hn
    · simp only [DataW.weightsAll,List.mem_append];exact .inr (weightsAll_mem hd n hn)
theorem weights_slice {t e:TypeId} {l r:List (DataW H)} {N:Nat} (ht:P.underlying t=some (.slice e)) (h:((DataW.slice l r).weights P t).all (· ≤ N)=true):(l.length+r.length) * P.bytesOf e≤N∧∀ d∈l,(d.weights P e).all (· ≤ N)=true:=by
  have h0:(DataW.slice l r).weights P t=(l.length+r.length) * P.bytesOf e :: (DataW.weightsAll P e l++DataW.weightsAll P e r):=by simp [DataW.weights,ht]
  rw [h0,List.all_eq_true] at h;refine ⟨by simpa using h _ (List.mem_cons_self ..),fun d hd=>List.all_eq_true.2 fun n hn=>h n (List.mem_cons_of_mem _ (List.mem_append_left _ (weightsAll_mem hd n hn)))⟩
theorem max_le {s:ByteArray} (h:s.size≤maxLen):s.data.toList.length≤9223372036854775807:=by
  have h1:s.data.toList.length=s.size:=Array.length_toList;have h2:maxLen=9223372036854775807:=rfl;omega
end
end Go.Gx
namespace Go.Gx
open Go.ChangeShapes Go.WideShapes Go.Deep Go.RowKit
section
variable {H:Type} {enc:TypeId × Value→H} {P:Program}
theorem Gr.kept {W W':World} (h:Bel W W') (may:MemPlace→Prop):W.keptBut W' may:=by
  refine ⟨h.os,h.output,fun i hi=>?_⟩;rw [h.block i hi (fun f=>f)];have hx:=Array.getElem?_eq_getElem hi;rw [hx];generalize W.heap[i]=o;cases o <;> simp
theorem trodAll_stays {W W':World} (hl:laidOutB P=true) (hB:Bel W W') {sp:Nat→Bool}:∀ {ts:List TypeId} {vs:List Value} {ds:List (DataW H)} {ps:List MemPlace},
    (∀ t∈ts,P.readableRec t=true∧t<P.types.size)→DataW.TrodAll enc P W 0 (fun _=>true) true ts vs ds ps→(∀ p∈ps,sp p.block=true)→DataW.TrodAll enc P W' 0 sp true ts vs ds ps
  | [],[],[],_,_,h,_=>h
  | t :: ts,v :: vs,d :: ds,ps,hr,h,hs=>by
    have hlt:=h.lt;obtain ⟨p,q,h1,h2,rfl⟩:=h;exact ⟨p,q,WideElems.Trod_stays hl (hr t (by simp)).1 (hr t (by simp)).2 h1 (fun x hx=>hB.below.same (hlt x (List.mem_append_left _ hx))) (fun x hx=>hs x (List.mem_append_left _ hx)),
      trodAll_stays hl hB (fun t ht=>hr t (by simp [ht])) h2 (fun x hx=>hs x (List.mem_append_right _ hx)),rfl⟩
theorem post_of_bel {f:Func} {s:ChangeSpec} {apart fresh handsOn again:Bool} {W W':World} {args:Array Value} {ds gs:List (DataW H)} {before:List MemPlace} {tb:TypeId}
    (hl:laidOutB P=true) (hr:∀ t∈f.params.toList,P.readableRec t=true∧t<P.types.size) (hv:s.vars=[]) (hres:f.resultTypes=#[tb]) (hb:P.underlying tb=some .bool)
    (hW:DataW.Whole enc P f.params.toList s.vars apart W args.toList ds gs before) (hs:s.fn H (ds++gs)={ results:=[.lit (.bool true)],args:=ds }) (hB:Bel W W'):
    s.post enc P f apart fresh handsOn again W args (.bool true) W':=by
  have hlt:=hW.lt;obtain ⟨p,q,hA,hV,rfl,hz,hn⟩:=id hW;rw [hv] at hV;obtain ⟨rfl,rfl⟩:=trodVars_none hV;simp only [List.append_nil] at hlt hs hz hn;have hA':∀ sp:Nat→Bool,(∀ x∈p,sp x.block=true)→DataW.TrodAll enc P W' 0 sp true f.params.toList args.toList ds p:=fun sp h=>trodAll_stays hl hB hr hA h
  have hR:∀ (b:Nat) (sp:Nat→Bool) (hd:Bool),DataW.TrodAll enc P W' b sp hd f.resultTypes.toList ((Value.bool true).resultList f.resultTypes.size) [DataW.lit (.bool true)] []:=fun b sp hd=>by
    rw [hres];exact trodAll_mk1 ⟨1,by simp [DataW.trod,hb,Value.cells]⟩
  refine ⟨ds,[],p++[],[],p,[],hW,?_,?_,?_,hB.kept _,fun _=>⟨?_,[DataW.lit (.bool true)]++ds,[],([]++p)++[],⟨[]++p,[],trodAll_append (hA' _ fun _ _=>rfl) (hR _ _ _),?_,rfl,?_,?_⟩,?_⟩⟩
  · rw [List.append_nil,hs];exact hR _ _ _
  · rw [List.append_nil,hs];exact hA' _ (fun x hx=>by simpa using hlt x hx)
  · rw [List.append_nil,hs,hv];exact rfl
  · intro j t r h1 h2;rw [hres] at h1 h2
    match j,h1,h2 with
    | 0,h1,h2=>
      simp [Value.resultList] at h1 h2;subst h1;subst h2;simp [Value.okWide,hb,Cell.okWide,Cell.ok]
  · rw [hv];exact rfl
  · intro b off hp;simp only [List.nil_append,List.append_nil] at hp;have:=hz b off hp;have hb':=hlt _ hp;unfold World.frozen? at this ⊢;rw [hB.block b hb' (fun f=>f)];exact this
  · intro ha;simpa using hn ha
  · intro x hx _;simpa using hx
end
end Go.Gx
namespace Go.Gx
open Go.RowKit
def elT (P:Program) (e:TypeId) (sz:Nat):Bool:=
  match P.info? e with
  | some i=>match i.zero with
    | some z=>i.size == sz && z.cells.size == sz && decide (0<sz) && decide (i.bytes≤200)
    | none=>false
  | none=>false
theorem elT_spec {P:Program} {e:TypeId} {sz:Nat} (h:elT P e sz=true):∃ i z,P.info? e=some i∧i.zero=some z∧i.size=sz∧z.cells.size=sz∧0<sz∧i.bytes≤200:=by
  unfold elT at h;cases hi:P.info? e with
  | none=>simp [hi] at h
  | some i=>
    cases hz:i.zero with
    | none=>simp [hi,hz] at h
    | some z=>
      simp only [hi,hz,Bool.and_eq_true,beq_iff_eq,decide_eq_true_eq] at h;exact ⟨i,z,rfl,hz,h.1.1.1,h.1.1.2,h.1.2,h.2⟩
section
variable {P:Program} {n:Nat} {Q:Post} {D:List Deferred} {E:Env} {w:World}
def partsOk (sz:Nat):Nat→List (Nat × Value)→Bool
  | _,[]=>true
  | k,(i,v) :: r=>i == k && v.cells.size == sz && partsOk sz (k+1) r
theorem fill_parts (sz:Nat):∀ (vs:List (Nat × Value)) (k:Nat) (pre post:List Value),partsOk sz k vs=true→pre.length=k * sz→post.length=vs.length * sz→
    Instr.fill (fun i=>some (i * sz,sz)) (pre++post).toArray vs=some (pre++(vs.map fun x=>x.2.cells.toList).flatten).toArray:=by
  intro vs;induction vs with
  | nil=>
    intro k pre post _ _ hpost;have:post=[]:=by simpa using hpost
    simp [Instr.fill,this]
  | cons x vs ih=>
    obtain ⟨i,v⟩:=x;intro k pre post hok hpre hpost;simp only [partsOk,Bool.and_eq_true,beq_iff_eq] at hok;obtain ⟨⟨hik,hv⟩,hr⟩:=hok;subst hik;have hlen:(pre++post).length=i * sz+(vs.length+1) * sz:=by rw [List.length_append,hpre,hpost];simp
    have hsz:sz≤(vs.length+1) * sz:=Nat.le_mul_of_pos_left _ om_;have hfold:∀ (cs:List Value) (a b:List Value),cs.length≤b.length→
        (cs.zipIdx).foldl (fun (acc:Array Value) (x:Value × Nat)=>acc.setIfInBounds (a.length+x.2) x.1) (a++b).toArray=(a++cs++b.drop cs.length).toArray:=by
      intro cs
      suffices H:∀ (cs:List Value) (j:Nat) (a b:List Value),cs.length≤b.length→
          (cs.zipIdx j).foldl (fun (acc:Array Value) (x:Value × Nat)=>acc.setIfInBounds (a.length+x.2 - j) x.1) (a++b).toArray=(a++cs++b.drop cs.length).toArray from
        fun a b h=>by simpa using H cs 0 a b h
      intro cs;induction cs with
      | nil=>intro j a b _;simp
      | cons c cs ihc=>
        intro j a b hb;cases b with
        | nil=>simp at hb
        | cons b0 b=>
          have h1:=ihc (j+1) (a++[c]) b (by simpa using hb);simp only [List.zipIdx_cons,List.foldl_cons];have e1:(a++b0 :: b).toArray.setIfInBounds (a.length+j - j) c=(a++[c]++b).toArray:=by
            simp
          rw [e1];have e2:(fun (acc:Array Value) (x:Value × Nat)=>acc.setIfInBounds (a.length+x.2 - j) x.1)=(fun (acc:Array Value) (x:Value × Nat)=>acc.setIfInBounds ((a++[c]).length+x.2 - (j+1)) x.1):=by
            funext acc x;congr 1;simp;omega
          rw [e2,h1];simp
    simp only [Instr.fill];have hno:¬ (v.cells.size≠sz || decide (i * sz+v.cells.size > (pre++post).toArray.size))=true:=by
      simp only [hv,List.size_toArray,hlen];simp;omega
    rw [if_neg hno];have h2:=hfold v.cells.toList pre post (by simp [hv,hpost];omega);rw [hpre] at h2;have e3:(Array.foldl (fun (cs:Array Value) (x:Value × Nat)=>cs.setIfInBounds (i * sz+x.2) x.1) (pre++post).toArray v.cells.zipIdx)=(pre++v.cells.toList++post.drop v.cells.toList.length).toArray:=by
      rw [← h2,← Array.foldl_toList,Array.toList_zipIdx]
    have e4:=ih (i+1) (pre++v.cells.toList) (post.drop v.cells.toList.length) hr (by simp [hpre,hv,Nat.add_mul]) (by simp [hpost,hv,Nat.add_mul]);simp only [List.map_cons,List.flatten_cons,← List.append_assoc];rw [← e4];exact congrArg (fun a=>Instr.fill (fun i=>some (i * sz,sz)) a vs) e3
theorem x_bs {T e:TypeId} {len sz:Nat} {ps:Array (Nat × Operand)} {t:TypeId} {vs:List (Nat × Value)} {cells:List Value}
    (hu:P.underlying T=some (.slice e)) (he:elT P e sz=true) (hp:ps.toList.map (fun x=>(x.1,ev E x.2))=vs) (hok:(partsOk sz 0 vs && decide (vs.length=len) && decide (0<len) && decide (len * sz≤16777216))=true)
    (hc:(vs.map fun x=>x.2.cells.toList).flatten=cells):X P (.buildSlice T len ps) t E w (.slice (some ⟨w.heap.size,0,none⟩) len len) (w.alloc (.cells cells.toArray e)):=by
  obtain ⟨i,z,hi,hz,hs,hzs,hpos,-⟩:=elT_spec he;simp only [Bool.and_eq_true,decide_eq_true_eq] at hok;obtain ⟨⟨⟨hok,hlen⟩,hl0⟩,hbig⟩:=hok;have hrun:=Go.run_buildSlice (P:=P) w T e len (ps.map fun x=>(x.1,ev E x.2)) cells.toArray i z hu hi hz (by rw [hs];omega) (by rw [hs];have:=Nat.mul_pos hl0 hpos;omega) (by
    have:=fill_parts sz vs 0 [] ((Array.range (len * sz)).map (z.cells[· % z.cells.size]!)).toList hok (by simp) (by simp [hlen]);rw [hs,Array.toList_map,hp];rw [List.nil_append,Array.toArray_toList,hc] at this;exact this)
  unfold X;simp only [execOp,Sem.run_bind,hrun];rfl
theorem L.bs {ops:Array Oper} {r:List Oper} {d:Nat} {T e:TypeId} {len sz:Nat} {ps:Array (Nat × Operand)} {t:TypeId} {p:String} {af:Array Edge} {vs:List (Nat × Value)} {cells:List Value}
    (hu:P.underlying T=some (.slice e)) (he:elT P e sz=true) (hp:ps.toList.map (fun x=>(x.1,ev E x.2))=vs) (hok:(partsOk sz 0 vs && decide (vs.length=len) && decide (0<len) && decide (len * sz≤16777216))=true)
    (hc:(vs.map fun x=>x.2.cells.toList).flatten=cells) (hd:Nat.blt d n=true)
    (k:∀ w1,Box w1 w.heap.size e cells→Bel w w1→w1.heap.size=w.heap.size+1→L P n ops Q r D (upd E d (.slice (some ⟨w.heap.size,0,none⟩) len len)) w1):
    L P n ops Q (⟨some d,.buildSlice T len ps,t,p,af,none⟩ :: r) D E w:=
  L.val (x_bs hu he hp hok hc) hd (k _ (box_alloc _ _ _) (bel_alloc _ _) (by simp))
def fillS (places:List (Nat × Nat)):List Value→List (Nat × Value)→Option (List Value)
  | zero,[]=>some zero
  | zero,(i,v) :: r=>match places[i]? with
    | none=>none
    | some (off,size)=>if v.cells.size=size∧off+size≤zero.length then fillS places (zero.take off++v.cells.toList++zero.drop (off+size)) r else none
theorem fill_S (places:List (Nat × Nat)):∀ (vs:List (Nat × Value)) (zero cells:List Value),fillS places zero vs=some cells→Instr.fill (places.toArray[·]?) zero.toArray vs=some cells.toArray:=by
  intro vs;induction vs with
  | nil=>intro zero cells h;simp only [fillS,Option.some.injEq] at h;simp [Instr.fill,h]
  | cons x vs ih=>
    obtain ⟨i,v⟩:=x;intro zero cells h;simp only [fillS] at h;simp only [Instr.fill,List.getElem?_toArray];cases hp:places[i]? with
    | none=>simp [hp] at h
    | some y=>
      obtain ⟨off,size⟩:=y;simp only [hp] at h;split at h
      · rename_i hc
        obtain ⟨h1,h2⟩:=hc;have hno:¬ (v.cells.size≠size || decide (off+v.cells.size > zero.toArray.size))=true:=by simp [h1];omega
        simp only;rw [if_neg hno,← ih _ _ h];have hfold:∀ (cs:List Value) (j:Nat) (a b:List Value),cs.length≤b.length→
            (cs.zipIdx j).foldl (fun (acc:Array Value) (x:Value × Nat)=>acc.setIfInBounds (a.length+x.2 - j) x.1) (a++b).toArray=(a++cs++b.drop cs.length).toArray:=by
          intro cs;induction cs with
          | nil=>intro j a b _;simp
          | cons c cs ihc=>
            intro j a b hb;cases b with
            | nil=>simp at hb
            | cons b0 b=>
              have h1:=ihc (j+1) (a++[c]) b (by simpa using hb);simp only [List.zipIdx_cons,List.foldl_cons];have e1:(a++b0 :: b).toArray.setIfInBounds (a.length+j - j) c=(a++[c]++b).toArray:=by
                simp
              rw [e1];have e2:(fun (acc:Array Value) (x:Value × Nat)=>acc.setIfInBounds (a.length+x.2 - j) x.1)=(fun (acc:Array Value) (x:Value × Nat)=>acc.setIfInBounds ((a++[c]).length+x.2 - (j+1)) x.1):=by
                funext acc x;congr 1;simp;omega
              rw [e2,h1];simp
        have h3:=hfold v.cells.toList 0 (zero.take off) (zero.drop off) (by simp [h1];omega);have e0:(zero.take off).length=off:=by simp;omega
        rw [List.take_append_drop,e0,Array.length_toList,h1,List.drop_drop] at h3;have e3:(Array.foldl (fun (cs:Array Value) (x:Value × Nat)=>cs.setIfInBounds (off+x.2) x.1) zero.toArray v.cells.zipIdx)=(zero.take off++v.cells.toList++zero.drop (off+size)).toArray:=by
          rw [← h3,← Array.foldl_toList,Array.toList_zipIdx];rfl
        have e5:=congrArg (fun a=>Instr.fill (places.toArray[·]?) a vs) e3;simp only [List.getElem?_toArray] at e5 ⊢;exact e5
      · cases h
def structInfo (P:Program) (s:TypeId):Option (List (Nat × Nat) × List Value):=
  match P.underlying s with
  | some (.struct fs)=>match (fs.toList.mapM fun f=>(P.info? f.type).map fun i=>(f.offset,i.size)),(P.info? s).bind (·.zero) with
    | some ps,some z=>some (ps,z.cells.toList)
    | _,_=>none
  | _=>none
theorem mapM_places (P:Program) (w:World):∀ (fs:List Field) (ps:List (Nat × Nat)),(fs.mapM fun f=>(P.info? f.type).map fun i=>(f.offset,i.size))=some ps→
    ((fs.mapM fun f=>do pure (f.offset,← sizeOf f.type):Sem (List (Nat × Nat)))).run P w=.ok ps w:=by
  intro fs;induction fs with
  | nil=>intro ps h;simp only [List.mapM_nil,Option.pure_def,Option.some.injEq] at h;subst h;simp
  | cons f fs ih=>
    intro ps h;simp only [List.mapM_cons,Option.bind_eq_bind,Option.pure_def] at h;cases hi:P.info? f.type with
    | none=>simp [hi] at h
    | some i=>
      simp only [hi,Option.map_some,Option.bind_some] at h;cases hm:(fs.mapM fun f=>(P.info? f.type).map fun i=>(f.offset,i.size)) with
      | none=>simp [hm] at h
      | some qs=>
        simp only [hm,Option.bind_some,Option.some.injEq] at h;have h2:=ih _ hm;subst h;simp only [List.mapM_cons,sizeOf,typeInfo,Sem.run_bind,Sem.run_pure,Result.andThen_ok,run_program,hi] at h2 ⊢;rw [h2];rfl
theorem x_build {ps:Array (Nat × Operand)} {t s:TypeId} {vs:List (Nat × Value)} {places:List (Nat × Nat)} {zero cells:List Value} (hs:structInfo P s=some (places,zero))
    (hp:ps.toList.map (fun x=>(x.1,ev E x.2))=vs) (hf:fillS places zero vs=some cells):X P (.build s ps) t E w (.agg cells.toArray) w:=by
  unfold X;unfold structInfo at hs;cases hu:P.underlying s with
  | none=>simp [hu] at hs
  | some ud=>
    cases ud <;> simp only [hu] at hs <;> try cases hs
    rename_i fs
    cases hz:(P.info? s).bind (·.zero) with
    | none=>simp [hz] at hs
    | some z=>
      cases hm:(fs.toList.mapM fun f=>(P.info? f.type).map fun i=>(f.offset,i.size)) with
      | none=>simp [hz,hm] at hs
      | some qs=>
        simp only [hz,hm,Option.some.injEq,Prod.mk.injEq] at hs;obtain ⟨rfl,rfl⟩:=hs;cases hi:P.info? s with
        | none=>simp [hi] at hz
        | some i=>
          simp only [hi,Option.bind_some] at hz;have hpl:=mapM_places P w fs.toList _ hm;have hpl':((fs.mapM fun f=>do pure (f.offset,← sizeOf f.type):Sem (Array (Nat × Nat)))).run P w=.ok qs.toArray w:=by
            rw [← Array.toArray_toList (xs:=fs),List.mapM_toArray];show Sem.run P ((fs.toList.mapM fun f=>do pure (f.offset,← sizeOf f.type):Sem (List (Nat × Nat))) >>= fun x=>pure x.toArray) w=_;rw [Sem.run_bind,hpl];rfl
          have hfl:=fill_S qs vs _ _ hf;have hv':(ps.map fun x=>(x.1,ev E x.2)).toList=vs:=by rw [Array.toList_map];exact hp
          rw [Array.toArray_toList] at hfl;simp only [execOp,Instr.build,zeroValue,typeInfo,Sem.run_bind,run_program,Result.andThen_ok,hi,hz,Sem.run_pure,run_underlying hu,hpl',hv',hfl]
end
theorem strs_of_box {A:Nat→Prop} {w:World} {b:Nat} {t:TypeId} (l:List Str) (h:Box w b t (l.map S)) (hA:¬ A b) (hl:l.length≤70368744177664) (hx:∀ x∈l,x.length≤9223372036854775807):StrsAt A w (.slice (some ⟨b,0,none⟩) l.length l.length) l:=
  ⟨_,_,rfl,Nat.le_refl _,by omega,hl,hx,fun _=>⟨b,0,rfl,hA,fun i hi=>h.cell0 (by simp [hi])⟩⟩
end Go.Gx
