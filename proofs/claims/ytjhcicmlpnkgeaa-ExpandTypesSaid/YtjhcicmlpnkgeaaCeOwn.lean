/- Slices of types and of strings that a call grows. Conditions: none. -/
import Derived.Laws.OwnMore
import Derived.Test.YtjhcicmlpnkgeaaCeDef
import Derived.Test.YtjhcicmlpnkgeaaCeRep
namespace Go.Gx
variable {n0 base k:Nat} {w w':World} {e:TypeId} {v v' v1 v2:Value}
def Av (n0:Nat) (w:World) (v1 v2:Value) (k:Nat):Prop:=k<n0∨some k=v1.ownBlock∨some k=v2.ownBlock∨w.heap.size≤k
def ShsOwn (A:Nat→Prop) (w:World) (base:Nat) (e:TypeId) (v:Value) (l:List Sh):Prop:=
  ∃ rows:List (List Value),rows.length=l.length∧Own w base e 5 v l.length rows.flatten∧(∀ i,i<l.length→(rows.getD i []).length=5)∧∀ i,i<l.length→ShC A w (rows.getD i []) (l.getD i default)
theorem ShsOwn.nil {A:Nat→Prop}:ShsOwn A w base e (.slice none 0 0) []:=⟨[],rfl,own_nil,fun i h=>absurd h (by simp),fun i h=>absurd h (by simp)⟩
theorem ShsOwn.own {A:Nat→Prop} {l:List Sh} (h:ShsOwn A w base e v l):∃ xs,Own w base e 5 v l.length xs:=by
  obtain ⟨rows,-,ho,-⟩:=h;exact ⟨_,ho⟩
theorem ShsOwn.lt {A:Nat→Prop} {l:List Sh} (h:ShsOwn A w base e v l) {j:Nat} (hj:some j=v.ownBlock):base≤j∧j<w.heap.size:=by
  obtain ⟨xs,ho⟩:=h.own;exact ho.lt hj
theorem ShsOwn.carryA {A A' R:Nat→Prop} {l:List Sh} (h:ShsOwn A w base e v l) (g:Gr R w w') (hR:∀ j,some j=v.ownBlock→¬ R j) (hRA:∀ j,R j→A j) (hA:∀ j,A' j→A j ):ShsOwn A' w' base e v l:=by
  obtain ⟨rows,h1,h2,h3,h4⟩:=h;exact ⟨rows,h1,h2.carryR g hR,h3,fun i hi=>((h4 i hi).carryR g hRA).mono fun j _ hj=>hA j hj⟩
theorem ShsOwn.carry {A:Nat→Prop} {l:List Sh} (h:ShsOwn A w base e v l) (g:Bel w w'):ShsOwn A w' base e v l:=h.carryA g (fun _ _ f=>f) (fun _ f=>f.elim) (fun _ h=>h)
theorem getD_snoc {α : Type} {l:List α} {x d:α} {i:Nat} (hi:i<(l++[x]).length):(l++[x]).getD i d=if i<l.length then l.getD i d else x:=by
  simp only [List.length_append,List.length_cons,List.length_nil] at hi;simp only [List.getD_eq_getElem?_getD];split
  · rw [List.getElem?_append_left (by assumption)]
  · rw [List.getElem?_append_right om_,show i - l.length=0 by omega];rfl
theorem ShsOwn.snoc {A A':Nat→Prop} {l:List Sh} {rows:List (List Value)} {cs:List Value} {t:Sh} (h1:rows.length=l.length) (h3:∀ i,i<l.length→(rows.getD i []).length=5) (h4:∀ i,i<l.length→ShC A w (rows.getD i []) (l.getD i default))
    (ht:ShC A w cs t) (ho:Own w' base e 5 v' (l.length+1) (rows.flatten++cs)) (g:Gr (fun j=>some j=v.ownBlock) w w') (hv:∀ j,some j=v.ownBlock→A j) (hA:∀ j,A' j→A j):ShsOwn A' w' base e v' (l++[t]):=by
  refine ⟨rows++[cs],by simp [h1],?_,fun i hi=>?_,fun i hi=>?_⟩
  · have e1:(rows++[cs]).flatten=rows.flatten++cs:=by simp
    rw [e1,List.length_append];exact ho
  · rw [getD_snoc (by simpa [h1] using hi)];split
    · exact h3 i om_
    · exact ht.len
  · rw [getD_snoc (by simpa [h1] using hi),getD_snoc hi];by_cases hlt:i<l.length
    · rw [if_pos om_,if_pos hlt];exact ((h4 i hlt).carryR g hv).mono fun j _ hj=>hA j hj
    · rw [if_neg om_,if_neg hlt];exact (ht.carryR g hv).mono fun j _ hj=>hA j hj
theorem flat5 {rows:List (List Value)} (h:∀ r∈rows,r.length=5) {i j:Nat} (hj:j<5) (hi:i<rows.length):rows.flatten[i * 5+j]? = (rows.getD i [])[j]? := by
  induction rows generalizing i with
  | nil=>simp at hi
  | cons r rows ih=>
    have hr:=h r (by simp);cases i with
    | zero=>simp [List.getElem?_append_left,hr,hj]
    | succ i=>
      rw [List.flatten_cons,List.getElem?_append_right (by rw [hr];omega),hr,show (i+1) * 5+j - 5=i * 5+j by omega,ih (fun r' h'=>h r' (by simp [h'])) (by simpa using hi)];simp
theorem ShsOwn.done {A A':Nat→Prop} {l:List Sh} (h:ShsOwn A w base e v l) (hl:l.length≤70368744177664) (hA:∀ j,A' j→A j) (hb:∀ j,base≤j→¬ A' j):ShsAt A' w v l:=by
  obtain ⟨rows,h1,h2,h3,h4⟩:=h;rcases h2.open with ⟨rfl,hk,-⟩ | ⟨b,cap,tl,rfl,hbb,hcap,hcm,hbx⟩
  · have hn:l=[]:=List.eq_nil_of_length_eq_zero hk;subst hn;exact ShsAt.nil _ _ _ _ (by simp)
  · refine ⟨some ⟨b,0,none⟩,cap,fun i=>rows.getD i [],rfl,hcap,hcm,hl,⟨fun _=>⟨b,0,rfl,hb b hbb,fun i j hi hj=>?_⟩,h3,fun i hi=>(h4 i hi).mono fun k _ hk=>hA k hk⟩⟩;have hr:∀ r∈rows,r.length=5:=fun r hr=>by
      obtain ⟨i,hi,rfl⟩:=List.getElem_of_mem hr;have:=h3 i om_
      rwa [List.getD_eq_getElem?_getD,List.getElem?_eq_getElem hi] at this
    have hf:=flat5 hr hj (by omega:i<rows.length);have h5:(rows.getD i []).length=5:=h3 i hi;have hv:(rows.getD i [])[j]? = some ((rows.getD i [])[j]'om_):=List.getElem?_eq_getElem om_;show w.cell? ⟨b,0+i * 5+j,none⟩=(rows.getD i [])[j]?;rw [hv] at hf ⊢;have hlt:i * 5+j<rows.flatten.length:=(List.getElem?_eq_some_iff.1 hf).1;rw [show 0+i * 5+j=i * 5+j by omega];exact hbx.cell (by rw [List.getElem?_append_left hlt];exact hf)
theorem strs_done {A:Nat→Prop} {l:List Str} (h:Own w base e 1 v l.length (l.map S)) (hl:l.length≤70368744177664) (hx:∀ x∈l,x.length≤9223372036854775807) (hb:∀ j,base≤j→¬ A j):StrsAt A w v l:=by
  rcases h.open with ⟨rfl,hk,-⟩ | ⟨b,cap,tl,rfl,hbb,hcap,hcm,hbx⟩
  · have hn:l=[]:=List.eq_nil_of_length_eq_zero hk;subst hn;exact StrsAt.nil _ _ _ _ (by simp)
  · refine ⟨_,cap,rfl,hcap,hcm,hl,hx,fun _=>⟨b,0,rfl,hb b hbb,fun i hi=>hbx.cell0 ?_⟩⟩;rw [List.getElem?_append_left (by simpa using hi)];simp [hi]
theorem av_step {w2:World} (hs:w.heap.size≤w2.heap.size) (h1:v1.ownBlock=v.ownBlock∨v1.ownBlock=some w.heap.size) (h2:v2.ownBlock=v'.ownBlock∨v2.ownBlock=some w.heap.size) {j:Nat} (h:Av n0 w2 v1 v2 j):Av n0 w v v' j:=by
  rcases h with h | h | h | h
  · exact .inl h
  · rcases h1 with e | e
    · exact .inr (.inl (h.trans e))
    · rw [e] at h;exact .inr (.inr (.inr (by simp at h;omega)))
  · rcases h2 with e | e
    · exact .inr (.inr (.inl (h.trans e)))
    · rw [e] at h;exact .inr (.inr (.inr (by simp at h;omega)))
  · exact .inr (.inr (.inr om_))
theorem av_mono {w2:World} (hs:w.heap.size≤w2.heap.size) {j:Nat} (h:Av n0 w2 v1 v2 j):Av n0 w v1 v2 j:=av_step hs (.inl rfl) (.inl rfl) h
def Ge (b:Nat) (w:World):Prop:=b≤w.heap.size
theorem Ge.carryR {R:Nat→Prop} {b:Nat} (h:Ge b w) (g:Gr R w w'):Ge b w':=Nat.le_trans h g.size
theorem Ge.carry {b:Nat} (h:Ge b w) (g:Bel w w'):Ge b w':=h.carryR g
theorem own_ne {base base' k k' sz sz':Nat} {e e':TypeId} {xs xs':List Value} (h:Own w base e sz v k xs) (h':Own w base' e' sz' v' k' xs') (hne:Nat.beq e e'=false) {j:Nat} (hj:some j=v.ownBlock):¬ some j=v'.ownBlock:=by
  intro hj';rcases h.2 with ⟨rfl,-⟩ | ⟨b,cap,cur,rfl,-,hg,-⟩
  · simp [Value.ownBlock] at hj
  · rcases h'.2 with ⟨rfl,-⟩ | ⟨b',cap',cur',rfl,-,hg',-⟩
    · simp [Value.ownBlock] at hj'
    · simp [Value.ownBlock] at hj hj';subst hj;subst hj';rw [hg] at hg';have:e=e':=by simp at hg';exact hg'.2
      subst this;simp at hne
theorem own_form {base sz k:Nat} {e:TypeId} {xs:List Value} (h:Own w base e sz v (k+1) xs):∃ b cap,v=.slice (some ⟨b,0,none⟩) (k+1) cap:=by
  rcases h.open with ⟨-,h,-⟩ | ⟨b,cap,tl,rfl,-⟩
  · omega
  · exact ⟨b,cap,rfl⟩
theorem own_one {base sz k:Nat} {e:TypeId} {xs:List Value} (h:Own w base e sz v k xs):v.oneCell'=true:=by
  rcases h.open with ⟨rfl,-⟩ | ⟨_,_,_,rfl,-⟩ <;> rfl
theorem ShRow.elemAt {A:Nat→Prop} {b o:Nat} {row:Nat→List Value} {l:List Sh} (h:ShRow A w (some ⟨b,o,none⟩) row l) {i:Nat} (hi:i<l.length):∀ j,j<5→w.cell? ⟨b,o+i * 5+j,none⟩=(row i)[j]? := by
  obtain ⟨b',o',e,hc⟩:=h.elem hi;simp only [Option.some.injEq,Addr.mk.injEq] at e;intro j hj;rw [e.1,e.2.1];exact hc j hj
theorem own_shape {w:World} {base sz k:Nat} {e:TypeId} {v:Value} {xs:List Value} (h:Own w base e sz v k xs):∃ a c,v=.slice a k c∧k≤c:=by
  rcases h.open with ⟨rfl,rfl,-⟩ | ⟨b,cap,tl,rfl,-,h1,-⟩
  · exact ⟨none,0,rfl,Nat.le_refl _⟩
  · exact ⟨_,cap,rfl,h1⟩
section
variable {P:Program}
def finR (P:Program) (fn:Func) (Φ : Value→World→Prop):Post:=fun e D E w=>(e=.normal∨e=.ret)∧D=[]∧∃ v,(∀ a:Array Value,(∀ t,a.getD t undef=E t)→(results fn a).run P w=.ok v w)∧Φ v w
theorem finR_mk {fn:Func} {Φ : Value→World→Prop} {e:Exit} {E:Env} {w:World} (he:e=.normal∨e=.ret) (h:∃ v,(∀ a:Array Value,(∀ t,a.getD t undef=E t)→(results fn a).run P w=.ok v w)∧Φ v w):finR P fn Φ e [] E w:=⟨he,rfl,h⟩
theorem ret_of_W_R {f:FuncId} {fn:Func} {c:Code} {args:Array Value} {Φ : Value→World→Prop}
    (hf:P.funcs[f]? = some fn) (hb:fn.body=some c) (hn:args.size≤fn.ntmps) (h:W P fn.ntmps c (finR P fn Φ) [] (env0 args.toList) w):Ret P f args w Φ := by
  refine calls_of_wp hf hb (wp_mono (h _ (fr0 hn)) ?_);rintro e a' w' ⟨he,E',hE,h1,hD,v,hv,hΦ⟩;rcases h1 with rfl | rfl
  · exact ⟨hD,v,hv _ hE.get,_,rfl,hΦ⟩
  · exact ⟨hD,v,hv _ hE.get,_,rfl,hΦ⟩
theorem resS {fn:Func} {t:Tmp} {T:TypeId} {E:Env} {b n:Nat} {T':TypeId} {cs:List Value} (hr:fn.results=#[.cell t T]) (ht:aggT P T n=true) (hE:E t=.pointer (some ⟨b,0,none⟩)) (hb:Box w b T' cs) (hl:cs.length=n):
    ∀ a:Array Value,(∀ t,a.getD t undef=E t)→(results fn a).run P w=.ok (.agg cs.toArray) w:=by
  intro a ha;have hg:a.getD t undef=.pointer (some ⟨b,0,none⟩):=by rw [ha,hE]
  have hload:(loadVar T ⟨b,0,none⟩).run P w=.ok (.agg cs.toArray) w:=by
    unfold aggT at ht;simp only [Bool.and_eq_true,beq_iff_eq] at ht;obtain ⟨h1,h2⟩:=ht;cases hu:P.underlying T with
    | none=>simp [hu] at h1
    | some d=>
      rw [hu] at h1;exact run_loadVar_row w b T' T cs.toArray (0,0) d hb hu (by cases d <;> simp_all) (by rw [h2];simp [hl])
  rw [Array.getD_eq_getD_getElem?] at hg;simp [results,hr,hg,asAddr,hload]
end
end Go.Gx
namespace Go.Gx
open Go.RowKit
abbrev Thing (α : Type):=(Nat→Prop)→World→List Value→α → Prop
class Car {α : Type} (C:Thing α) (k:outParam Nat):Prop where
  pos:0<k
  len:∀ {A:Nat→Prop} {w:World} {cs:List Value} {x:α},C A w cs x→cs.length=k
  one:∀ {A:Nat→Prop} {w:World} {cs:List Value} {x:α},C A w cs x→∀ v∈cs,v.oneCell'=true
  move:∀ {A A':Nat→Prop} {w w':World} {cs:List Value} {x:α},(∀ (a:Addr) v,¬ A a.block→w.cell? a=some v→w'.cell? a=some v∧¬ A' a.block)→C A w cs x→C A' w' cs x
section
variable {α : Type} {C:Thing α} {A A' R:Nat→Prop} {w w':World} {cs:List Value} {x:α}
theorem Car.carryR {k:Nat} [Car C k] (h:C A w cs x) (g:Gr R w w') (hR:∀ j,R j→A j):C A w' cs x:=Car.move (fun _ _ hA hv=>⟨g.cell hv (fun hr=>hA (hR _ hr)),hA⟩) h
theorem Car.carry {k:Nat} [Car C k] (h:C A w cs x) (g:Bel w w'):C A w' cs x:=Car.carryR h g (fun _ f=>f.elim)
theorem Car.mono {k:Nat} [Car C k] (h:C A w cs x) (hA:∀ b,b<w.heap.size→A' b→A b):C A' w cs x:=Car.move (fun _ _ hn hv=>⟨hv,fun h'=>hn (hA _ (World.block_lt_of_cell? w _ hv) h')⟩) h
theorem Car.up {k:Nat} [Car C k] (h:C A w cs x):C (fun j=>A j∨w.heap.size≤j) w cs x:=Car.mono h fun b hb h'=>h'.resolve_right om_
end
structure RecRow {α : Type} [Inhabited α] (C:Thing α) (k:Nat) (A:Nat→Prop) (w:World) (p:Option Addr) (row:Nat→List Value) (l:List α):Prop where
  at_:l≠[]→∃ b o,p=some ⟨b,o,none⟩∧¬ A b∧∀ i j,i<l.length→j<k→w.cell? ⟨b,o+i * k+j,none⟩=(row i)[j]?
  len:∀ i,i<l.length→(row i).length=k
  each:∀ i,i<l.length→C A w (row i) (l.getD i default)
def RecsAt {α : Type} [Inhabited α] (C:Thing α) (k:Nat) (A:Nat→Prop) (w:World) (v:Value) (l:List α):Prop:=
  ∃ p cap,∃ row:Nat→List Value,v=.slice p l.length cap∧l.length≤cap∧cap≤9223372036854775807∧l.length≤70368744177664∧RecRow C k A w p row l
section
variable {α : Type} [Inhabited α] {C:Thing α} {k:Nat} {A A' R:Nat→Prop} {w w':World} {p:Option Addr} {row:Nat→List Value} {l:List α} {v:Value}
theorem RecRow.elem (h:RecRow C k A w p row l) {i:Nat} (hi:i<l.length):∃ b o,p=some ⟨b,o,none⟩∧¬ A b∧∀ j,j<k→w.cell? ⟨b,o+i * k+j,none⟩=(row i)[j]? := by
  obtain ⟨b,o,hp,hA,hc⟩:=h.at_ (by rintro rfl;simp at hi);exact ⟨b,o,hp,hA,fun j hj=>hc i j hi hj⟩
theorem RecRow.elemAt {b o:Nat} (h:RecRow C k A w (some ⟨b,o,none⟩) row l) {i:Nat} (hi:i<l.length):∀ j,j<k→w.cell? ⟨b,o+i * k+j,none⟩=(row i)[j]? := by
  obtain ⟨b',o',e,-,hc⟩:=h.elem hi;simp only [Option.some.injEq,Addr.mk.injEq] at e;intro j hj;rw [e.1,e.2.1];exact hc j hj
theorem RecRow.cell {b o:Nat} (h:RecRow C k A w (some ⟨b,o,none⟩) row l) {i j:Nat} {u:Value} (hi:i<l.length) (hu:(row i)[j]? = some u):w.cell? ⟨b,o+i * k+j,none⟩=some u:=by
  have hj:=(List.getElem?_eq_some_iff.1 hu).1;rw [h.len i hi] at hj;rw [h.elemAt hi j hj,hu]
variable [Car C k]
theorem RecRow.move (hc:∀ (a:Addr) v,¬ A a.block→w.cell? a=some v→w'.cell? a=some v∧¬ A' a.block) (h:RecRow C k A w p row l):RecRow C k A' w' p row l:=by
  refine ⟨fun hne=>?_,h.len,fun i hi=>Car.move hc (h.each i hi)⟩;obtain ⟨b,o,e,hA,hcell⟩:=h.at_ hne;have h5:∀ i j,i<l.length→j<k→∃ v,(row i)[j]? = some v:=fun i j hi hj=>⟨_,List.getElem?_eq_getElem (by rw [h.len i hi];exact hj)⟩
  refine ⟨b,o,e,?_,fun i j hi hj=>?_⟩
  · have h0:0<l.length:=List.length_pos_iff.2 hne;have hk:0<k:=Car.pos C;obtain ⟨v,hv⟩:=h5 0 0 h0 hk;exact (hc ⟨b,o+0 * k+0,none⟩ v hA (by rw [hcell 0 0 h0 hk,hv])).2
  · obtain ⟨v,hv⟩:=h5 i j hi hj;rw [hv];exact (hc _ v hA (by rw [hcell i j hi hj,hv])).1
theorem RecRow.carryR (h:RecRow C k A w p row l) (g:Gr R w w') (hR:∀ j,R j→A j):RecRow C k A w' p row l:=h.move fun _ _ hA hv=>⟨g.cell hv (fun hr=>hA (hR _ hr)),hA⟩
theorem RecRow.carry (h:RecRow C k A w p row l) (g:Bel w w'):RecRow C k A w' p row l:=h.carryR g (fun _ f=>f.elim)
theorem RecRow.mono (h:RecRow C k A w p row l) (hA:∀ b,b<w.heap.size→A' b→A b):RecRow C k A' w p row l:=h.move fun _ _ hn hv=>⟨hv,fun h'=>hn (hA _ (World.block_lt_of_cell? w _ hv) h')⟩
theorem RecRow.up (h:RecRow C k A w p row l):RecRow C k (fun j=>A j∨w.heap.size≤j) w p row l:=h.mono fun b hb h'=>h'.resolve_right om_
theorem RecsAt.move (hc:∀ (a:Addr) v,¬ A a.block→w.cell? a=some v→w'.cell? a=some v∧¬ A' a.block) (h:RecsAt C k A w v l):RecsAt C k A' w' v l:=by
  obtain ⟨p,cap,row,e,h1,h2,h3,h4⟩:=h;exact ⟨p,cap,row,e,h1,h2,h3,h4.move hc⟩
theorem RecsAt.carryR (h:RecsAt C k A w v l) (g:Gr R w w') (hR:∀ j,R j→A j):RecsAt C k A w' v l:=h.move fun _ _ hA hv=>⟨g.cell hv (fun hr=>hA (hR _ hr)),hA⟩
theorem RecsAt.carry (h:RecsAt C k A w v l) (g:Bel w w'):RecsAt C k A w' v l:=h.carryR g (fun _ f=>f.elim)
theorem RecsAt.mono (h:RecsAt C k A w v l) (hA:∀ b,b<w.heap.size→A' b→A b):RecsAt C k A' w v l:=h.move fun _ _ hn hv=>⟨hv,fun h'=>hn (hA _ (World.block_lt_of_cell? w _ hv) h')⟩
theorem RecsAt.up (h:RecsAt C k A w v l):RecsAt C k (fun j=>A j∨w.heap.size≤j) w v l:=h.mono fun b hb h'=>h'.resolve_right om_
omit [Car C k] in
theorem RecsAt.nil {p:Option Addr} {cap:Nat} (hc:cap≤9223372036854775807):RecsAt C k A w (.slice p 0 cap) ([]:List α):=
  ⟨p,cap,fun _=>[],rfl,by simp,hc,by simp,⟨fun h=>absurd rfl h,fun i h=>absurd h (by simp),fun i h=>absurd h (by simp)⟩⟩
omit [Car C k] in
theorem RecsAt.one (h:RecsAt C k A w v l):v.oneCell'=true:=by obtain ⟨_,_,_,rfl,-⟩:=h;rfl
end
def RecOwn {α : Type} [Inhabited α] (C:Thing α) (k:Nat) (A:Nat→Prop) (w:World) (base:Nat) (e:TypeId) (v:Value) (l:List α):Prop:=
  ∃ rows:List (List Value),rows.length=l.length∧Own w base e k v l.length rows.flatten∧(∀ i,i<l.length→(rows.getD i []).length=k)∧∀ i,i<l.length→C A w (rows.getD i []) (l.getD i default)
theorem flatk {k:Nat} {rows:List (List Value)} (h:∀ r∈rows,r.length=k) {i j:Nat} (hj:j<k) (hi:i<rows.length):rows.flatten[i * k+j]? = (rows.getD i [])[j]? := by
  induction rows generalizing i with
  | nil=>simp at hi
  | cons r rows ih=>
    have hr:=h r (by simp);cases i with
    | zero=>simp [List.getElem?_append_left,hr,hj]
    | succ i=>
      have e:(i+1) * k+j=i * k+j+k:=by rw [Nat.add_mul,Nat.one_mul];omega
      rw [List.flatten_cons,List.getElem?_append_right (by rw [hr,e];omega),hr,e,Nat.add_sub_cancel,ih (fun r' h'=>h r' (by simp [h'])) (by simpa using hi)];simp
section
variable {α : Type} [Inhabited α] {C:Thing α} {k base:Nat} {e:TypeId} {A A' R:Nat→Prop} {w w':World} {l:List α} {v v':Value}
theorem RecOwn.nil:RecOwn C k A w base e (.slice none 0 0) ([]:List α):=⟨[],rfl,own_nil,fun i h=>absurd h (by simp),fun i h=>absurd h (by simp)⟩
theorem RecOwn.own (h:RecOwn C k A w base e v l):∃ xs,Own w base e k v l.length xs:=by
  obtain ⟨rows,-,ho,-⟩:=h;exact ⟨_,ho⟩
theorem RecOwn.lt (h:RecOwn C k A w base e v l) {j:Nat} (hj:some j=v.ownBlock):base≤j∧j<w.heap.size:=by
  obtain ⟨xs,ho⟩:=h.own;exact Own.lt ho hj
theorem RecOwn.one (h:RecOwn C k A w base e v l):v.oneCell'=true:=by obtain ⟨xs,ho⟩:=h.own;exact own_one ho
variable [Car C k]
theorem RecOwn.carryA (h:RecOwn C k A w base e v l) (g:Gr R w w') (hR:∀ j,some j=v.ownBlock→¬ R j) (hRA:∀ j,R j→A j) (hA:∀ j,A' j→A j):RecOwn C k A' w' base e v l:=by
  obtain ⟨rows,h1,h2,h3,h4⟩:=h;exact ⟨rows,h1,Own.carryR h2 g hR,h3,fun i hi=>Car.mono (Car.carryR (h4 i hi) g hRA) fun j _ hj=>hA j hj⟩
theorem RecOwn.carry (h:RecOwn C k A w base e v l) (g:Bel w w'):RecOwn C k A w' base e v l:=h.carryA g (fun _ _ f=>f) (fun _ f=>f.elim) (fun _ h=>h)
theorem RecOwn.snoc {rows:List (List Value)} {cs:List Value} {t:α} (h1:rows.length=l.length) (h3:∀ i,i<l.length→(rows.getD i []).length=k) (h4:∀ i,i<l.length→C A w (rows.getD i []) (l.getD i default))
    (ht:C A w cs t) (ho:Own w' base e k v' (l.length+1) (rows.flatten++cs)) (g:Gr R w w') (hv:∀ j,R j→A j) (hA:∀ j,A' j→A j):RecOwn C k A' w' base e v' (l++[t]):=by
  refine ⟨rows++[cs],by simp [h1],?_,fun i hi=>?_,fun i hi=>?_⟩
  · have e1:(rows++[cs]).flatten=rows.flatten++cs:=by simp
    rw [e1,List.length_append];exact ho
  · rw [getD_snoc (by simpa [h1] using hi)];split
    · exact h3 i om_
    · exact Car.len ht
  · rw [getD_snoc (by simpa [h1] using hi),getD_snoc hi];by_cases hlt:i<l.length
    · rw [if_pos om_,if_pos hlt];exact Car.mono (Car.carryR (h4 i hlt) g hv) fun j _ hj=>hA j hj
    · rw [if_neg om_,if_neg hlt];exact Car.mono (Car.carryR ht g hv) fun j _ hj=>hA j hj
theorem RecOwn.done (h:RecOwn C k A w base e v l) (hl:l.length≤70368744177664) (hA:∀ j,A' j→A j) (hb:∀ j,base≤j→¬ A' j):RecsAt C k A' w v l:=by
  obtain ⟨rows,h1,h2,h3,h4⟩:=h;rcases Own.open h2 with ⟨rfl,hk,-⟩ | ⟨b,cap,tl,rfl,hbb,hcap,hcm,hbx⟩
  · have hn:l=[]:=List.eq_nil_of_length_eq_zero hk;subst hn;exact RecsAt.nil (by simp)
  · refine ⟨some ⟨b,0,none⟩,cap,fun i=>rows.getD i [],rfl,hcap,hcm,hl,⟨fun _=>⟨b,0,rfl,hb b hbb,fun i j hi hj=>?_⟩,h3,fun i hi=>Car.mono (h4 i hi) fun j _ hj=>hA j hj⟩⟩;have hr:∀ r∈rows,r.length=k:=fun r hr=>by
      obtain ⟨i,hi,rfl⟩:=List.getElem_of_mem hr;have:=h3 i om_
      rwa [List.getD_eq_getElem?_getD,List.getElem?_eq_getElem hi] at this
    have hf:=flatk hr hj (by omega:i<rows.length);have h5:(rows.getD i []).length=k:=h3 i hi;have hv:(rows.getD i [])[j]? = some ((rows.getD i [])[j]'om_):=List.getElem?_eq_getElem om_;show w.cell? ⟨b,0+i * k+j,none⟩=(rows.getD i [])[j]?;rw [hv] at hf ⊢;have hlt:i * k+j<rows.flatten.length:=(List.getElem?_eq_some_iff.1 hf).1;rw [Nat.zero_add];exact hbx.cell (by rw [List.getElem?_append_left hlt];exact hf)
omit [Car C k] in
theorem recs_of_box {b:Nat} {t:TypeId} (rows:List (List Value)) (l:List α) (h:Box w b t rows.flatten) (hA:¬ A b) (hl:l.length≤70368744177664) (hr:rows.length=l.length)
    (h3:∀ i,i<l.length→(rows.getD i []).length=k) (h4:∀ i,i<l.length→C A w (rows.getD i []) (l.getD i default)):RecsAt C k A w (.slice (some ⟨b,0,none⟩) l.length l.length) l:=by
  refine ⟨some ⟨b,0,none⟩,l.length,fun i=>rows.getD i [],rfl,Nat.le_refl _,by omega,hl,⟨fun _=>⟨b,0,rfl,hA,fun i j hi hj=>?_⟩,h3,h4⟩⟩;have hr:∀ r∈rows,r.length=k:=fun r hr=>by
    obtain ⟨i,hi,rfl⟩:=List.getElem_of_mem hr;have:=h3 i om_
    rwa [List.getD_eq_getElem?_getD,List.getElem?_eq_getElem hi] at this
  have hf:=flatk hr hj (by omega:i<rows.length);have h5:(rows.getD i []).length=k:=h3 i hi;have hv:(rows.getD i [])[j]? = some ((rows.getD i [])[j]'om_):=List.getElem?_eq_getElem om_;show w.cell? ⟨b,0+i * k+j,none⟩=(rows.getD i [])[j]?;rw [hv] at hf ⊢;exact h.cell0 hf |> fun e=>by rw [← e];congr 2;omega
end
end Go.Gx
namespace Go.Gx
open Go.ChangeShapes Go.WideShapes Go.Deep Go.RowKit
section
variable {H:Type} {enc:TypeId × Value→H} {P:Program}
def OAll (O:TypeId→World→Value→Prop) (W:World):List TypeId→List Value→Prop
  | [],[]=>True
  | t :: ts,v :: vs=>O t W v∧OAll O W ts vs
  | _,_=>False
theorem o_args {O:TypeId→World→Value→Prop} {W:World} {base:Nat}:∀ {ts:List TypeId} {vs:List Value} {ds:List (DataW H)} {ps:List MemPlace},
    (∀ t∈ts,∀ (v:Value) (d:DataW H) (p:List MemPlace),Value.okWide P W .any base t v→DataW.Trod enc P W 0 (fun _=>true) true t v d p→(d.weights P t).all (· ≤ reachBytes)=true→O t W v)→
    (∀ (j:Nat) v t,vs[j]? = some v→ts[j]? = some t→Value.okWide P W .any base t v)→DataW.TrodAll enc P W 0 (fun _=>true) true ts vs ds ps→
    (DataW.weightsEach P ts ds).all (· ≤ reachBytes)=true→OAll O W ts vs∧ds.length=ts.length
  | [],vs,ds,ps,_,_,h,_=>by
    obtain ⟨rfl,rfl,rfl⟩:=trodAll_nil h;exact ⟨trivial,rfl⟩
  | t :: ts,vs,ds,ps,hO,hv,h,hw=>by
    obtain ⟨v,vs,d,ds,a,b,rfl,rfl,rfl,h1,h2⟩:=trodAll_cons h;rw [DataW.weightsEach,List.all_append,Bool.and_eq_true] at hw;obtain ⟨e1,e2⟩:=o_args (fun t ht=>hO t (by simp [ht])) (fun j v t hj ht=>hv (j+1) v t hj ht) h2 hw.2;exact ⟨⟨hO t (by simp) v d a (hv 0 v t rfl rfl) h1 hw.1,e1⟩,by simp [e2]⟩
theorem lifted_of {C:Checked} {os:Os} {f:FuncId} {fn:Func} {s:ChangeSpec} {conds:List PathCond} {apart fresh handsOn again:Bool} {ts:List TypeId} {tb:TypeId} (O:TypeId→World→Value→Prop)
    (hps:fn.params.toList=ts) (hv:s.vars=[]) (hres:fn.resultTypes=#[tb]) (hb:C.prog.underlying tb=some .bool)
    (hl:laidOutB C.prog=true) (hrd:∀ t∈ts,C.prog.readableRec t=true∧t<C.prog.types.size)
    (hs:∀ ds:List (DataW H),ds.length=ts.length→s.fn H ds={ results:=[.lit (.bool true)],args:=ds })
    (own:ownKnob C.prog.godebug=none) (started:os.Started) (noInit:C.prog.inits.idxOf? f=none) (hfn:C.prog.funcs[f]? = some fn)
    (witness:∃ (w:World) (tape:Tape) (i:Input),w.os=os∧(w.forCall tape i).Shaped C.prog∧i.vars=[]∧Input.okWide C.prog (w.forCall tape i) .any w.heap.size f i∧
      s.pre6 enc C.prog fn conds apart (w.forCall tape i).memory i.args∧({}:Assume).holds C.prog (lone (Frame.enter C.prog f i.args .normal) [] (w.forCall tape i)))
    (hO:∀ t∈ts,∀ (W:World) (base:Nat) (v:Value) (d:DataW H) (p:List MemPlace),Value.okWide C.prog W .any base t v→DataW.Trod enc C.prog W 0 (fun _=>true) true t v d p→(d.weights C.prog t).all (· ≤ reachBytes)=true→O t W v)
    (contract:∀ (w:World) (vs:List Value),OAll O w ts vs→Ret C.prog f vs.toArray w fun v w'=>v=.bool true∧Bel w w'):
    ReturnsInHanded {} C os f .any (s.pre6 enc C.prog fn conds apart) (s.post enc C.prog fn apart fresh handsOn again):=by
  refine returnsInHanded_of_change_sized own started noInit hfn witness ?_;intro W base args ds gs before hval hW _ hwt _;obtain ⟨p,q,hA,hV,rfl,hz,hn⟩:=id hW;have hV':=hV;rw [hv] at hV';obtain ⟨rfl,rfl⟩:=trodVars_none hV';rw [hps] at hA;have hvt:s.plain.varTypes C.prog=[]:=by
    have:s.plain.vars=[]:=hv;simp [DataSpec.varTypes,this]
  rw [hvt,List.append_nil,List.append_nil,hps] at hwt;obtain ⟨e1,e2⟩:=o_args (O:=O) (base:=base) (fun t ht v d p=>hO t ht W base v d p) (fun j v t hj ht=>hval j t v (by rw [← hps] at ht;simpa using ht) (by simpa using hj)) hA hwt;have hr:=contract W args.toList e1;rw [Array.toArray_toList] at hr;refine Calls.mono hr fun e w' ⟨v,he,hv',hB⟩=>⟨v,he,?_⟩
  subst hv';exact post_of_bel hl (fun t ht=>by rw [hps] at ht;exact hrd t ht) hv hres hb hW (by rw [List.append_nil];exact hs ds e2) hB
variable {w:World} {base:Nat} {spare:Nat→Bool} {held:Bool}
theorem recs_open {α : Type} [Inhabited α] {Cc:Thing α} {k:Nat} {tS tE:TypeId} (ht:P.underlying tS=some (.slice tE)) (hc:P.cellsOf tE=k) (hk:0<k) (hb:2≤P.bytesOf tE)
    (hopen:∀ (fuel:Nat) (cs:List Value) (x:DataW H × List MemPlace),DataW.trod enc P w base spare held fuel tE cs=some x→(x.1.weights P tE).all (· ≤ reachBytes)=true→∃ s,Cc (fun _=>False) w cs s)
    {fuel:Nat} {v:Value} {x:DataW H × List MemPlace} (h:DataW.trod enc P w base spare held fuel tS [v]=some x) (hw:(x.1.weights P tS).all (· ≤ reachBytes)=true):∃ l:List α,RecsAt Cc k (fun _=>False) w v l:=by
  rcases DataW.trod_slice ht (x:=x) h with ⟨h1,rfl⟩ | ⟨a,len,cap,elems,rest,n',hn',h1,rfl,-,hl,hm,hel,hx,-,-⟩
  · simp at h1;exact ⟨[],h1 ▸ RecsAt.nil (by simp)⟩
  · simp at h1;subst h1;obtain ⟨hby,hwd⟩:=weights_slice ht hw;have hlen:len≤70368744177664:=by
      have h1:len * P.bytesOf tE≤reachBytes:=Nat.le_trans (Nat.mul_le_mul_right _ (by simp [hel])) hby;have h2:len * 2≤len * P.bytesOf tE:=Nat.mul_le_mul_left _ hb;have h3:=reachBytes_lt;omega
    have each:∀ i,i<len→∃ p:List Value × α,p.1.length=k∧(∀ j,j<k→w.cell? ((a.add (i * k)).add j)=p.1[j]?)∧Cc (fun _=>False) w p.1 p.2:=fun i hi=>by
      have h0:=hx i hi;rw [List.getElem?_eq_getElem om_] at h0;obtain ⟨cs',h1,h2⟩:=Option.bind_eq_some_iff.1 h0;rw [hc] at h1;obtain ⟨-,h3,h4⟩:=World.cells?_some h1;obtain ⟨s,hs⟩:=hopen n' cs' _ h2 (hwd _ (List.mem_map_of_mem (List.getElem_mem _)));exact ⟨(cs',s),h3,h4,hs⟩
    obtain ⟨F,hF⟩:=choose_lt (α := List Value × α) each;have e0:((List.range len).map fun i=>(F i).2).length=len:=by simp
    refine ⟨(List.range len).map fun i=>(F i).2,some a,cap,fun i=>(F i).1,by rw [e0],by rw [e0];exact hl,hm,by rw [e0];exact hlen,?_⟩;refine ⟨fun hne=>?_,fun i hi=>(hF i (by rw [e0] at hi;exact hi)).1,fun i hi=>?_⟩
    · have h0:0<len:=by rcases Nat.eq_zero_or_pos len with h | h;exact absurd (by rw [h];rfl) hne;exact h
      obtain ⟨q1,q2,-⟩:=hF 0 h0;have hc0:=q2 0 hk;rw [List.getElem?_eq_getElem om_] at hc0;obtain ⟨b,o,spot⟩:=a;have hspot:spot=none:=by simpa [Addr.add] using World.cell?_spot hc0
      subst hspot;refine ⟨b,o,rfl,fun f=>f,fun i j hi hj=>?_⟩;rw [e0] at hi;have:=(hF i hi).2.1 j hj;rw [add_plain,add_plain] at this;exact this
    · rw [e0] at hi;have:=(hF i hi).2.2;simpa [hi] using this
theorem recs_arg {α : Type} [Inhabited α] {Cc:Thing α} {k:Nat} {tS tE:TypeId} (ht:P.underlying tS=some (.slice tE)) (hc:P.cellsOf tE=k) (hk:0<k) (hb:2≤P.bytesOf tE)
    (hopen:∀ (fuel:Nat) (cs:List Value) (x:DataW H × List MemPlace),DataW.trod enc P w 0 (fun _=>true) true fuel tE cs=some x→(x.1.weights P tE).all (· ≤ reachBytes)=true→∃ s,Cc (fun _=>False) w cs s)
    {b:Nat} {v:Value} {d:DataW H} {p:List MemPlace} (hv:Value.okWide P w .any b tS v) (h:DataW.Trod enc P w 0 (fun _=>true) true tS v d p) (hw:(d.weights P tS).all (· ≤ reachBytes)=true):∃ l:List α,RecsAt Cc k (fun _=>False) w v l:=by
  obtain ⟨fuel,h⟩:=h;have hcells:v.cells.toList=[v]:=by
    unfold Value.okWide at hv;rw [ht] at hv;cases v <;> simp_all [Value.cells,Cell.okWide,Cell.ok]
  rw [hcells] at h;exact recs_open ht hc hk hb hopen h hw
end
end Go.Gx
namespace Go.Gx
variable {P:Program} {ops:Array Oper} {Q:Exit→Act→World→Prop} {C:World→Prop}
def YC (P:Program) (ops:Array Oper) (C:World→Prop) (o:Oper) (v:Value) (a:Act):Prop:=
  Region.wanted o (yielded ops a.tmps)=true∧∀ w,C w→(execOp a.eval o).run P w=.ok (.value v) w
theorem YC.same {o:Oper} {v:Value} {a a':Act} (hy:YC P ops C o v a) (he:execOp a'.eval o=execOp a.eval o) (hw:Region.wanted o (yielded ops a'.tmps)=Region.wanted o (yielded ops a.tmps)):YC P ops C o v a':=by
  unfold YC at *;rw [he,hw];exact hy
theorem YC.take {i:Nat} {o:Oper} {v:Value} {a:Act} (hi:ops[i]? = some o) (hy:YC P ops C o v a) {K:Act→World→Prop} {w:World} (hC:C w) (h:K (a.put o.dst v) w):wpOp P ops Q i K a w:=by
  unfold wpOp;simp only [hi,hy.1,if_true,Oper.wp,hy.2 w hC,Oper.upon];exact .inl h
theorem wpOp_late {j:Nat} {oi oj:Oper} {v:Value} (hj:ops[j]? = some oj) (hap:oi.apart ops oj=true)
    (hsi:∀ cs b,oi.op≠.select cs b) (hsj:∀ cs b,oj.op≠.select cs b)
    (hQ:∀ c a w,Q (.panic c) (a.put oi.dst v) w→Q (.panic c) a w) {K:Act→World→Prop} {a:Act} {w:World}
    (hy:YC P ops C oi v a) (h:wpOp P ops Q j K (a.put oi.dst v) w):
    wpOp P ops Q j (fun a' w'=>YC P ops C oi v a'∧K (a'.put oi.dst v) w') a w:=by
  obtain ⟨h1,h2,h3⟩:=Oper.apart_spec hap;have keep:∀ u,YC P ops C oi v (a.put oj.dst u):=fun u=>hy.same (execOp_put oi hsi a oj.dst u h3) (wanted_put oi a oj.dst u h3)
  have hw1:=wanted_put oj a oi.dst v h1;have he1:=execOp_put oj hsj a oi.dst v h1;unfold wpOp at h ⊢;simp only [hj] at h ⊢;rw [hw1] at h;by_cases hw:Region.wanted oj (yielded ops a.tmps)=true
  · rw [if_pos hw] at h ⊢;rcases h with h | ⟨ha,hl⟩
    · left;unfold Oper.wp at h ⊢;rw [he1] at h;generalize (execOp a.eval oj).run P w=r at h ⊢;cases r with
      | halt x w'=>
        cases x with
        | panic u=>exact hQ _ _ _ h
        | _=>exact h
      | ok x w'=>
        cases x with
        | value u=>exact ⟨keep u,by rw [← Act.put_comm a v u h2];exact h⟩
        | skip=>exact ⟨keep _,by rw [← Act.put_comm a v undef h2];exact h⟩
        | defer d=>
          refine ⟨(hy.same (a':={ a with defers:=d :: a.defers }) rfl rfl).same (execOp_put oi hsi _ oj.dst _ h3) (wanted_put oi _ oj.dst _ h3),?_⟩;rw [← Act.put_comm _ v undef h2,← Act.put_defers];exact h
        | enter f args=>
          refine Calls.mono h fun e w'' he=>?_
          cases e with
          | returned u=>exact ⟨keep u,by rw [← Act.put_comm a v u h2];exact he⟩
          | panicked c=>exact hQ _ _ _ he
          | outgrown=>exact he
        | row row args=>exact Rows.mono h fun u w'' he=>⟨keep u,by rw [← Act.put_comm a v u h2];exact he⟩
        | _=>exact h
    · exact .inr ⟨by unfold Oper.asks at *;rw [he1] at ha;exact ha,hl⟩
  · rw [if_neg hw] at h ⊢;exact ⟨keep _,by rw [← Act.put_comm a v undef h2];exact h⟩
def wpAnyC (P:Program) (ops:Array Oper) (C:World→Prop) (st:Nat) (Q:Exit→Act→World→Prop):Nat→Array Bool→Act→World→Prop
  | 0,listed,a,w=>(listed.getD st false=false→C w)∧Region.ready .any ops listed=[]∧Q .normal a w
  | f+1,listed,a,w=>(listed.getD st false=false→C w)∧(Region.ready .any ops listed=[]→Q .normal a w)∧∀ i∈Region.ready .any ops listed,wpOp P ops Q i (wpAnyC P ops C st Q f (listed.setIfInBounds i true)) a w
theorem wpAnyC.any {st:Nat}:∀ (f:Nat) (listed:Array Bool) (a:Act) (w:World),wpAnyC P ops C st Q f listed a w→wpAny P .any ops Q f listed a w
  | 0,_,_,_,h=>h.2
  | f+1,_,_,_,h=>⟨h.2.1,fun i hi=>wpOp_mono (fun _ _ h'=>wpAnyC.any f _ _ _ h') (h.2.2 i hi)⟩
theorem wpAnyC.here {st f:Nat} {listed:Array Bool} {a:Act} {w:World} (h:wpAnyC P ops C st Q f listed a w):listed.getD st false=false→C w:=by
  cases f <;> exact h.1
theorem unlisted {listed:Array Bool} {i:Nat} (h:listed.getD i true=false):listed.getD i false=false:=by
  rcases Nat.lt_or_ge i listed.size with h' | h'
  · simp [h'] at h ⊢;exact h
  · simp [Array.getElem?_eq_none h'] at h
theorem wpAnyC.take {i st:Nat} {oi ost:Oper} {v:Value} (hi:ops[i]? = some oi) (hsel:∀ (j:Nat) (o:Oper) cs b,ops[j]? = some o→o.op≠.select cs b)
    (hQ:∀ c a w,Q (.panic c) (a.put oi.dst v) w→Q (.panic c) a w) (hst:ops[st]? = some ost) (hdep:∃ e∈ost.after,Region.binds .any e=true∧e.on=i) (hne:st≠i):
    ∀ (fuel:Nat) (listed:Array Bool) (a:Act) (w:World),
      (listed.getD st false=true→listed.getD i false=true)→
      (∀ j oj,ops[j]? = some oj→j≠i→listed.getD j true=false→(∀ e∈oj.after,Region.binds .any e=true→e.on≠i)→oi.apart ops oj=true)→
      i∈Region.ready .any ops listed→YC P ops C oi v a→
      wpAnyC P ops C st Q fuel (listed.setIfInBounds i true) (a.put oi.dst v) w→wpAnyC P ops C st Q (fuel+1) listed a w:=by
  intro fuel;induction fuel with
  | zero=>
    intro listed a w hcl _ hr hy H;have hun:=(mem_ready.1 hr).1;have hst0:listed.getD st false=false:=by
      cases hh:listed.getD st false
      · rfl
      · have:=hcl hh;rw [unlisted hun] at this;cases this
    have hC:C w:=H.1 (by rw [getD_set_ne false hne.symm];exact hst0);refine ⟨fun _=>hC,fun h=>(by rw [h] at hr;cases hr),fun j hj=>?_⟩;by_cases hji:j=i
    · subst hji;exact hy.take hi hC H
    · have:=ready_mono hj hji;rw [H.2.1] at this;cases this
  | succ fuel ih=>
    intro listed a w hcl hfree hr hy H;have hun:=(mem_ready.1 hr).1;have hst0:listed.getD st false=false:=by
      cases hh:listed.getD st false
      · rfl
      · have:=hcl hh;rw [unlisted hun] at this;cases this
    have hC:C w:=H.here (by rw [getD_set_ne false hne.symm];exact hst0);refine ⟨fun _=>hC,fun h=>(by rw [h] at hr;cases hr),fun j hj=>?_⟩;by_cases hji:j=i
    · subst hji;exact hy.take hi hC H
    · have h1:=H.2.2 j (ready_mono hj hji);obtain ⟨hjun,oj,hoj,hall⟩:=mem_ready.1 hj;have hnot:∀ e∈oj.after,Region.binds .any e=true→e.on≠i:=fun e he hb heq=>by
        have h1:=hall e he hb;rw [heq,unlisted hun] at h1;cases h1
      have hjst:j≠st:=fun e=>by
        subst e;rw [hst] at hoj;cases hoj;obtain ⟨e,he,hb,hon⟩:=hdep;exact hnot e he hb hon
      have h2:=wpOp_late hoj (hfree j oj hoj hji hjun hnot) (fun cs b=>hsel i oi cs b hi) (fun cs b=>hsel j oj cs b hoj) hQ hy h1;refine wpOp_mono (fun a' w' h3=>ih (listed.setIfInBounds j true) a' w' (fun h=>?_) (fun k ok hk hki hu hno=>?_) (ready_mono hr (Ne.symm hji)) h3.1 ?_) h2
      · rw [getD_set_ne false hjst,hst0] at h;cases h
      · refine hfree k ok hk hki ?_ hno;by_cases hjk:j=k
        · subst hjk;exact hjun
        · rw [getD_set_ne true hjk] at hu;exact hu
      · rw [Array.setIfInBounds_comm _ _ hji];exact h3.2
section
variable {n st:Nat} {K:List Deferred→Env→World→Prop} {D:List Deferred} {E:Env} {w:World}
def LAC (P:Program) (n:Nat) (ops:Array Oper) (C:World→Prop) (st:Nat) (K:List Deferred→Env→World→Prop) (fuel:Nat) (listed:Array Bool) (D:List Deferred) (E:Env) (w:World):Prop:=
  ∀ a,Fr D n a E→wpAnyC P ops C st (lift n (nrm K)) fuel listed a w
theorem W.drawT {id:Nat} {l:List Oper} {Q:Post} (C:World→Prop) (st:Nat) (hm:P.follows .mixedOrders=true) (h:LAC P n l.toArray C st (Q .normal) l.length (Array.replicate l.length false) D E w.drew):W P n (.region id l.toArray true) Q D E w:=by
  intro a ha;refine wp_mono (wp_region_any (Q:=lift n (nrm (Q .normal))) hm ?_) ?_
  · have:=(h a ha).any;simpa using this
  · rintro e a' w' ⟨he,E',hE,rfl,hq⟩;exact ⟨he,E',hE,hq⟩
theorem LAC.take {fuel:Nat} {listed:Array Bool} {i d:Nat} {op:Op} {t:TypeId} {p:String} {af:Array Edge} {v:Value}
    (ho:ops[i]? = some ⟨some d,op,t,p,af,none⟩) (hs:Region.noSelect ops=true) (hf:Region.free .any ops listed i=true) (hr:(Region.ready .any ops listed).contains i=true)
    (hst:(ops[st]?).map (fun o=>o.after.any fun e=>Region.binds .any e && Nat.beq e.on i)=some true) (hne:Nat.beq st i=false) (hl:listed.getD st true=false)
    (hx:∀ w,C w→X P op t E w v w) (hd:Nat.blt d n=true) (k:LAC P n ops C st K fuel (listed.setIfInBounds i true) D (upd E d v) w):LAC P n ops C st K (fuel+1) listed D E w:=by
  intro a ha;cases hos:ops[st]? with
  | none=>rw [hos] at hst;cases hst
  | some ost=>
    rw [hos] at hst;simp only [Option.map_some,Option.some.injEq] at hst;obtain ⟨e,he,hb⟩:=Array.any_eq_true'.1 hst;simp only [Bool.and_eq_true] at hb;refine wpAnyC.take ho (Region.noSelect_spec hs) ?_ hos ⟨e,he,hb.1,Nat.eq_of_beq_eq_true hb.2⟩ (fun h=>by subst h;simp at hne) fuel listed a w (fun h=>by rw [unlisted hl] at h;cases h) (Region.free_spec ho hf) (by simpa using hr)
      ⟨by simp [Region.wanted],fun w hw=>?_⟩ (k _ (ha.put v hd))
    · rintro c a w ⟨_,E,_,h,_⟩;cases h
    · have:=hx w hw;unfold X at this;rw [execOp_bare,ha.eval];exact this
theorem LAC.done {listed:Array Bool} (hr:Region.ready .any ops listed=[]) (hl:listed.getD st false=true) (h:K D E w):LAC P n ops C st K 0 listed D E w:=
  fun _ ha=>⟨fun h0=>(by rw [hl] at h0;cases h0),hr,lift_mk (by simp) ha ⟨rfl,h⟩⟩
def LACs (P:Program) (n:Nat) (ops:Array Oper) (C:World→Prop) (st:Nat) (K:List Deferred→Env→World→Prop) (fuel:Nat) (listed:Array Bool) (D:List Deferred) (E:Env) (w:World):List Nat→Prop
  | []=>True
  | i :: r=>(∃ o,ops[i]? = some o∧L P n ops (thn (LAC P n ops C st K fuel (listed.setIfInBounds i true)) (nrm K)) [o] D E w)∧LACs P n ops C st K fuel listed D E w r
theorem LAC.step {fuel:Nat} {listed:Array Bool} {rs:List Nat} (hC:listed.getD st false=false→C w) (hr:Region.ready .any ops listed=rs) (hne:rs≠[])
    (h:LACs P n ops C st K fuel listed D E w rs):LAC P n ops C st K (fuel+1) listed D E w:=by
  intro a ha;refine ⟨hC,fun h0=>absurd (hr.symm.trans h0) hne,fun j hj=>?_⟩;rw [hr] at hj;have key:∀ rs:List Nat,LACs P n ops C st K fuel listed D E w rs→j∈rs→∃ o,ops[j]? = some o∧L P n ops (thn (LAC P n ops C st K fuel (listed.setIfInBounds j true)) (nrm K)) [o] D E w:=by
    intro rs;induction rs with
    | nil=>intro _ hi;cases hi
    | cons k r ih=>
      intro hL hi;rcases List.mem_cons.1 hi with rfl | hi
      · exact hL.1
      · exact ih hL.2 hi
  obtain ⟨o,ho,hLo⟩:=key rs h hj;have h1:=hLo a ha;have hl:∀ e a w,lift n (thn (LAC P n ops C st K fuel (listed.setIfInBounds j true)) (nrm K)) e a w→Exit.then (wpAnyC P ops C st (lift n (nrm K)) fuel (listed.setIfInBounds j true)) (lift n (nrm K)) e a w:=by
    intro e a w ⟨h1,E',h2,h3⟩;cases e <;> simp only [thn,Exit.then] at h3 ⊢;case normal=>exact h3 a h2
    case outgrown=>exact absurd rfl h1
    all_goals exact ⟨by simp,E',h2,h3⟩
  unfold wpOp;rw [ho];simp only;unfold wpList at h1;split
  · rename_i hw
    rw [if_pos hw] at h1;rcases h1 with h1 | ⟨_,a',w',h1⟩
    · refine .inl ?_;unfold Oper.wp at h1 ⊢;generalize (execOp a.eval o).run P w=res at h1 ⊢;cases res with
      | ok x w'=>
        cases x <;> simp only [Oper.upon,wpList] at h1 ⊢ <;> try exact hl _ _ _ h1
        · refine h1.mono fun e w'' h=>?_
          cases e with
          | returned v=>exact hl _ _ _ h
          | panicked c=>exact hl _ _ _ h
          | outgrown=>obtain ⟨a',w',h⟩:=h;exact absurd rfl h.1
        · exact h1.mono fun v w'' h=>hl _ _ _ h
      | halt x w'=>cases x <;> simp only [Oper.upon] at h1 ⊢ <;> try exact hl _ _ _ h1
    · exact absurd rfl h1.1
  · rename_i hw;rw [if_neg hw] at h1;exact hl _ _ _ h1
end
theorem L.bs0 {n:Nat} {Q:Post} {D:List Deferred} {E:Env} {w:World} {ops:Array Oper} {r:List Oper} {d:Nat} {T e:TypeId} {sz:Nat} {t:TypeId} {p:String} {af:Array Edge} (hu:P.underlying T=some (.slice e)) (he:elT P e sz=true) (hd:Nat.blt d n=true)
    (k:∀ w1,Own w1 w.heap.size e sz (.slice (some ⟨w.heap.size,0,none⟩) 0 0) 0 []→Bel w w1→w1.heap.size=w.heap.size+1→L P n ops Q r D (upd E d (.slice (some ⟨w.heap.size,0,none⟩) 0 0)) w1):
    L P n ops Q (⟨some d,.buildSlice T 0 #[],t,p,af,none⟩ :: r) D E w:=by
  obtain ⟨i,z,hi,hz,hs,hzs,hpos,-⟩:=elT_spec he;have e0:Array.range 0=#[]:=by simp
  have hrun:(Instr.buildSlice T 0 ((#[]:Array (Nat × Operand)).map fun x=>(x.1,ev E x.2))).run P w=.ok (.slice (some ⟨w.heap.size,0,none⟩) 0 0) (w.alloc (.cells #[] e)):=by
    simp [Instr.buildSlice,run_underlying hu,sizeOf,typeInfo,hi,Instr.fill,newRow,e0]
  refine L.val (v:=.slice (some ⟨w.heap.size,0,none⟩) 0 0) (w':=w.alloc (.cells #[] e)) ?_ hd (k _ ⟨by simp,.inr ⟨w.heap.size,0,#[],rfl,Nat.le_refl _,World.alloc_heap_new w _,Nat.le_refl _,by simp [maxLen],by simp,by simp⟩⟩ (bel_alloc _ _) (by simp));unfold X;simp only [execOp,Sem.run_bind,hrun];rfl
def Holds (w:World) (u:Value) (m:Nat) (news:List Value):Prop:=
  (∃ a c,u=.slice (some a) m c∧∀ j x,news[j]? = some x→w.cell? (a.add j)=some x)∨(u=.slice none 0 0∧m=0∧news=[])
end Go.Gx
