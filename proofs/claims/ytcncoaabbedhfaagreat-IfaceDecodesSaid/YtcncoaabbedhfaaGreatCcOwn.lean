/- Slices of types and of strings that a call grows. Conditions: none. -/
import Derived.Test.YtcncoaabbedhfaaGreatCcDef
import Derived.Test.YtcncoaabbedhfaaGreatCcRep
namespace Go.Gx
variable {n0 base k:Nat} {w w':World} {e:TypeId} {v v' v1 v2:Value}
def Av (n0:Nat) (w:World) (v1 v2:Value) (k:Nat):Prop:=k<n0∨some k=v1.ownBlock∨some k=v2.ownBlock∨w.heap.size≤k
def ShsOwn (A:Nat→Prop) (w:World) (base:Nat) (e:TypeId) (v:Value) (l:List Sh):Prop:=
  ∃ rows:List (List Value),rows.length=l.length∧Own w base e 5 v l.length rows.flatten∧(∀ i,i<l.length→(rows.getD i []).length=5)∧∀ i,i<l.length→ShC A w (rows.getD i []) (l.getD i default)
theorem ShsOwn.nil {A:Nat→Prop}:ShsOwn A w base e (.slice none 0 0) []:=⟨[],rfl,own_nil,fun i h=>absurd h (by simp),fun i h=>absurd h (by simp)⟩
theorem ShsOwn.own {A:Nat→Prop} {l:List Sh} (h:ShsOwn A w base e v l):∃ xs,Own w base e 5 v l.length xs:=by
  obtain ⟨rows,-,ho,-⟩:=h;exact ⟨_,ho⟩
theorem ShsOwn.lt {A:Nat→Prop} {l:List Sh} (h:ShsOwn A w base e v l) {j:Nat} (hj:some j=v.ownBlock):base≤j∧j<w.heap.size:=by
  obtain ⟨xs,ho⟩:=h.own;exact ho.lt hj
theorem ShsOwn.carryA {A A' R:Nat→Prop} {l:List Sh} (h:ShsOwn A w base e v l) (g:Gr R w w') (hR:∀ j,some j=v.ownBlock→¬ R j) (hRA:∀ j,R j→A j) (hA:∀ j,A' j→A j ):ShsOwn A' w' base e v l:=by
  obtain ⟨rows,h1,h2,h3,h4⟩:=h;exact ⟨rows,h1,h2.carryR g hR,h3,fun i hi=>((h4 i hi).carryR g hRA).mono fun j _ hj=>hA j hj⟩
theorem ShsOwn.carry {A:Nat→Prop} {l:List Sh} (h:ShsOwn A w base e v l) (g:Bel w w'):ShsOwn A w' base e v l:=h.carryA g (fun _ _ f=>f) (fun _ f=>f.elim) (fun _ h=>h)
theorem getD_snoc {α : Type} {l:List α} {x d:α} {i:Nat} (hi:i<(l++[x]).length):(l++[x]).getD i d=if i<l.length then l.getD i d else x:=by
  simp only [List.length_append,List.length_cons,List.length_nil] at hi;simp only [List.getD_eq_getElem?_getD];split
  · rw [List.getElem?_append_left (by assumption)]
  · rw [List.getElem?_append_right om_,show i - l.length=0 by omega];rfl
theorem ShsOwn.snoc {A A':Nat→Prop} {l:List Sh} {rows:List (List Value)} {cs:List Value} {t:Sh} (h1:rows.length=l.length) (h3:∀ i,i<l.length→(rows.getD i []).length=5) (h4:∀ i,i<l.length→ShC A w (rows.getD i []) (l.getD i default))
    (ht:ShC A w cs t) (ho:Own w' base e 5 v' (l.length+1) (rows.flatten++cs)) (g:Gr (fun j=>some j=v.ownBlock) w w') (hv:∀ j,some j=v.ownBlock→A j) (hA:∀ j,A' j→A j):ShsOwn A' w' base e v' (l++[t]):=by
  refine ⟨rows++[cs],by simp [h1],?_,fun i hi=>?_,fun i hi=>?_⟩
  · have e1:(rows++[cs]).flatten=rows.flatten++cs:=by simp
    rw [e1,List.length_append];exact ho
  · rw [getD_snoc (by simpa [h1] using hi)];split
    · exact h3 i om_
    · exact ht.len
  · rw [getD_snoc (by simpa [h1] using hi),getD_snoc hi];by_cases hlt:i<l.length
    · rw [if_pos om_,if_pos hlt];exact ((h4 i hlt).carryR g hv).mono fun j _ hj=>hA j hj
    · rw [if_neg om_,if_neg hlt];exact (ht.carryR g hv).mono fun j _ hj=>hA j hj
theorem flat5 {rows:List (List Value)} (h:∀ r∈rows,r.length=5) {i j:Nat} (hj:j<5) (hi:i<rows.length):rows.flatten[i * 5+j]? = (rows.getD i [])[j]? := by
  induction rows generalizing i with
  | nil=>simp at hi
  | cons r rows ih=>
    have hr:=h r (by simp);cases i with
    | zero=>simp [List.getElem?_append_left,hr,hj]
    | succ i=>
      rw [List.flatten_cons,List.getElem?_append_right (by rw [hr];omega),hr,show (i+1) * 5+j - 5=i * 5+j by omega,ih (fun r' h'=>h r' (by simp [h'])) (by simpa using hi)];simp
theorem ShsOwn.done {A A':Nat→Prop} {l:List Sh} (h:ShsOwn A w base e v l) (hl:l.length≤70368744177664) (hA:∀ j,A' j→A j) (hb:∀ j,base≤j→¬ A' j):ShsAt A' w v l:=by
  obtain ⟨rows,h1,h2,h3,h4⟩:=h;rcases h2.open with ⟨rfl,hk,-⟩ | ⟨b,cap,tl,rfl,hbb,hcap,hcm,hbx⟩
  · have hn:l=[]:=List.eq_nil_of_length_eq_zero hk;subst hn;exact ShsAt.nil _ _ _ _ (by simp)
  · refine ⟨some ⟨b,0,none⟩,cap,fun i=>rows.getD i [],rfl,hcap,hcm,hl,⟨fun _=>⟨b,0,rfl,hb b hbb,fun i j hi hj=>?_⟩,h3,fun i hi=>(h4 i hi).mono fun k _ hk=>hA k hk⟩⟩;have hr:∀ r∈rows,r.length=5:=fun r hr=>by
      obtain ⟨i,hi,rfl⟩:=List.getElem_of_mem hr;have:=h3 i om_
      rwa [List.getD_eq_getElem?_getD,List.getElem?_eq_getElem hi] at this
    have hf:=flat5 hr hj (by omega:i<rows.length);have h5:(rows.getD i []).length=5:=h3 i hi;have hv:(rows.getD i [])[j]? = some ((rows.getD i [])[j]'om_):=List.getElem?_eq_getElem om_;show w.cell? ⟨b,0+i * 5+j,none⟩=(rows.getD i [])[j]?;rw [hv] at hf ⊢;have hlt:i * 5+j<rows.flatten.length:=(List.getElem?_eq_some_iff.1 hf).1;rw [show 0+i * 5+j=i * 5+j by omega];exact hbx.cell (by rw [List.getElem?_append_left hlt];exact hf)
theorem strs_done {A:Nat→Prop} {l:List Str} (h:Own w base e 1 v l.length (l.map S)) (hl:l.length≤70368744177664) (hx:∀ x∈l,x.length≤9223372036854775807) (hb:∀ j,base≤j→¬ A j):StrsAt A w v l:=by
  rcases h.open with ⟨rfl,hk,-⟩ | ⟨b,cap,tl,rfl,hbb,hcap,hcm,hbx⟩
  · have hn:l=[]:=List.eq_nil_of_length_eq_zero hk;subst hn;exact StrsAt.nil _ _ _ _ (by simp)
  · refine ⟨_,cap,rfl,hcap,hcm,hl,hx,fun _=>⟨b,0,rfl,hb b hbb,fun i hi=>hbx.cell0 ?_⟩⟩;rw [List.getElem?_append_left (by simpa using hi)];simp [hi]
theorem av_step {w2:World} (hs:w.heap.size≤w2.heap.size) (h1:v1.ownBlock=v.ownBlock∨v1.ownBlock=some w.heap.size) (h2:v2.ownBlock=v'.ownBlock∨v2.ownBlock=some w.heap.size) {j:Nat} (h:Av n0 w2 v1 v2 j):Av n0 w v v' j:=by
  rcases h with h | h | h | h
  · exact .inl h
  · rcases h1 with e | e
    · exact .inr (.inl (h.trans e))
    · rw [e] at h;exact .inr (.inr (.inr (by simp at h;omega)))
  · rcases h2 with e | e
    · exact .inr (.inr (.inl (h.trans e)))
    · rw [e] at h;exact .inr (.inr (.inr (by simp at h;omega)))
  · exact .inr (.inr (.inr om_))
theorem av_mono {w2:World} (hs:w.heap.size≤w2.heap.size) {j:Nat} (h:Av n0 w2 v1 v2 j):Av n0 w v1 v2 j:=av_step hs (.inl rfl) (.inl rfl) h
def Ge (b:Nat) (w:World):Prop:=b≤w.heap.size
theorem Ge.carryR {R:Nat→Prop} {b:Nat} (h:Ge b w) (g:Gr R w w'):Ge b w':=Nat.le_trans h g.size
theorem Ge.carry {b:Nat} (h:Ge b w) (g:Bel w w'):Ge b w':=h.carryR g
theorem own_ne {base base' k k' sz sz':Nat} {e e':TypeId} {xs xs':List Value} (h:Own w base e sz v k xs) (h':Own w base' e' sz' v' k' xs') (hne:Nat.beq e e'=false) {j:Nat} (hj:some j=v.ownBlock):¬ some j=v'.ownBlock:=by
  intro hj';rcases h.2 with ⟨rfl,-⟩ | ⟨b,cap,cur,rfl,-,hg,-⟩
  · simp [Value.ownBlock] at hj
  · rcases h'.2 with ⟨rfl,-⟩ | ⟨b',cap',cur',rfl,-,hg',-⟩
    · simp [Value.ownBlock] at hj'
    · simp [Value.ownBlock] at hj hj';subst hj;subst hj';rw [hg] at hg';have:e=e':=by simp at hg';exact hg'.2
      subst this;simp at hne
theorem own_form {base sz k:Nat} {e:TypeId} {xs:List Value} (h:Own w base e sz v (k+1) xs):∃ b cap,v=.slice (some ⟨b,0,none⟩) (k+1) cap:=by
  rcases h.open with ⟨-,h,-⟩ | ⟨b,cap,tl,rfl,-⟩
  · omega
  · exact ⟨b,cap,rfl⟩
theorem own_one {base sz k:Nat} {e:TypeId} {xs:List Value} (h:Own w base e sz v k xs):v.oneCell'=true:=by
  rcases h.open with ⟨rfl,-⟩ | ⟨_,_,_,rfl,-⟩ <;> rfl
theorem ShRow.elemAt {A:Nat→Prop} {b o:Nat} {row:Nat→List Value} {l:List Sh} (h:ShRow A w (some ⟨b,o,none⟩) row l) {i:Nat} (hi:i<l.length):∀ j,j<5→w.cell? ⟨b,o+i * 5+j,none⟩=(row i)[j]? := by
  obtain ⟨b',o',e,hc⟩:=h.elem hi;simp only [Option.some.injEq,Addr.mk.injEq] at e;intro j hj;rw [e.1,e.2.1];exact hc j hj
theorem own_shape {w:World} {base sz k:Nat} {e:TypeId} {v:Value} {xs:List Value} (h:Own w base e sz v k xs):∃ a c,v=.slice a k c∧k≤c:=by
  rcases h.open with ⟨rfl,rfl,-⟩ | ⟨b,cap,tl,rfl,-,h1,-⟩
  · exact ⟨none,0,rfl,Nat.le_refl _⟩
  · exact ⟨_,cap,rfl,h1⟩
theorem own_pos {w:World} {base sz k c:Nat} {e:TypeId} {a:Option Addr} {xs:List Value} (h:Own w base e sz (.slice a k c) k xs) (hk:0<k):∃ b,a=some ⟨b,0,none⟩:=by
  rcases h.open with ⟨h1,h2,-⟩ | ⟨b,cap,tl,h1,-⟩
  · omega
  · simp only [Value.slice.injEq] at h1;exact ⟨b,h1.1⟩
theorem own_cell1 {w:World} {base n c b:Nat} {e:TypeId} {l:List Str} (h:Own w base e 1 (.slice (some ⟨b,0,none⟩) n c) n (l.map S)) {j:Nat} (hj:j<l.length):w.cell? ⟨b,0+j,none⟩=some (S (l.getD j [])):=by
  rcases h.open with ⟨h1,-⟩ | ⟨b',cap,tl,h1,-,-,-,hb⟩
  · cases h1
  · simp only [Value.slice.injEq,Option.some.injEq,Addr.mk.injEq] at h1;rw [h1.1.1];refine hb.cell0 ?_;rw [List.getElem?_append_left (by simpa using hj)];simp [hj,List.getD_eq_getElem?_getD]
section
variable {P:Program}
def finR (P:Program) (fn:Func) (Φ : Value→World→Prop):Post:=fun e D E w=>(e=.normal∨e=.ret)∧D=[]∧∃ v,(∀ a:Array Value,(∀ t,a.getD t undef=E t)→(results fn a).run P w=.ok v w)∧Φ v w
theorem finR_mk {fn:Func} {Φ : Value→World→Prop} {e:Exit} {E:Env} {w:World} (he:e=.normal∨e=.ret) (h:∃ v,(∀ a:Array Value,(∀ t,a.getD t undef=E t)→(results fn a).run P w=.ok v w)∧Φ v w):finR P fn Φ e [] E w:=⟨he,rfl,h⟩
theorem ret_of_W_R {f:FuncId} {fn:Func} {c:Code} {args:Array Value} {Φ : Value→World→Prop}
    (hf:P.funcs[f]? = some fn) (hb:fn.body=some c) (hn:args.size≤fn.ntmps) (h:W P fn.ntmps c (finR P fn Φ) [] (env0 args.toList) w):Ret P f args w Φ := by
  refine calls_of_wp hf hb (wp_mono (h _ (fr0 hn)) ?_);rintro e a' w' ⟨he,E',hE,h1,hD,v,hv,hΦ⟩;rcases h1 with rfl | rfl
  · exact ⟨hD,v,hv _ hE.get,_,rfl,hΦ⟩
  · exact ⟨hD,v,hv _ hE.get,_,rfl,hΦ⟩
theorem resS {fn:Func} {t:Tmp} {T:TypeId} {E:Env} {b n:Nat} {T':TypeId} {cs:List Value} (hr:fn.results=#[.cell t T]) (ht:aggT P T n=true) (hE:E t=.pointer (some ⟨b,0,none⟩)) (hb:Box w b T' cs) (hl:cs.length=n):
    ∀ a:Array Value,(∀ t,a.getD t undef=E t)→(results fn a).run P w=.ok (.agg cs.toArray) w:=by
  intro a ha;have hg:a.getD t undef=.pointer (some ⟨b,0,none⟩):=by rw [ha,hE]
  have hload:(loadVar T ⟨b,0,none⟩).run P w=.ok (.agg cs.toArray) w:=by
    unfold aggT at ht;simp only [Bool.and_eq_true,beq_iff_eq] at ht;obtain ⟨h1,h2⟩:=ht;cases hu:P.underlying T with
    | none=>simp [hu] at h1
    | some d=>
      rw [hu] at h1;exact run_loadVar_row w b T' T cs.toArray (0,0) d hb hu (by cases d <;> simp_all) (by rw [h2];simp [hl])
  rw [Array.getD_eq_getD_getElem?] at hg;simp [results,hr,hg,asAddr,hload]
end
end Go.Gx
namespace Go.Gx
open Go.RowKit
abbrev Thing (α : Type):=(Nat→Prop)→World→List Value→α → Prop
class Car {α : Type} (C:Thing α) (k:outParam Nat):Prop where
  pos:0<k
  len:∀ {A:Nat→Prop} {w:World} {cs:List Value} {x:α},C A w cs x→cs.length=k
  one:∀ {A:Nat→Prop} {w:World} {cs:List Value} {x:α},C A w cs x→∀ v∈cs,v.oneCell'=true
  move:∀ {A A':Nat→Prop} {w w':World} {cs:List Value} {x:α},(∀ (a:Addr) v,¬ A a.block→w.cell? a=some v→w'.cell? a=some v∧¬ A' a.block)→C A w cs x→C A' w' cs x
section
variable {α : Type} {C:Thing α} {A A' R:Nat→Prop} {w w':World} {cs:List Value} {x:α}
theorem Car.carryR {k:Nat} [Car C k] (h:C A w cs x) (g:Gr R w w') (hR:∀ j,R j→A j):C A w' cs x:=Car.move (fun _ _ hA hv=>⟨g.cell hv (fun hr=>hA (hR _ hr)),hA⟩) h
theorem Car.carry {k:Nat} [Car C k] (h:C A w cs x) (g:Bel w w'):C A w' cs x:=Car.carryR h g (fun _ f=>f.elim)
theorem Car.mono {k:Nat} [Car C k] (h:C A w cs x) (hA:∀ b,b<w.heap.size→A' b→A b):C A' w cs x:=Car.move (fun _ _ hn hv=>⟨hv,fun h'=>hn (hA _ (World.block_lt_of_cell? w _ hv) h')⟩) h
theorem Car.up {k:Nat} [Car C k] (h:C A w cs x):C (fun j=>A j∨w.heap.size≤j) w cs x:=Car.mono h fun b hb h'=>h'.resolve_right om_
end
structure RecRow {α : Type} [Inhabited α] (C:Thing α) (k:Nat) (A:Nat→Prop) (w:World) (p:Option Addr) (row:Nat→List Value) (l:List α):Prop where
  at_:l≠[]→∃ b o,p=some ⟨b,o,none⟩∧¬ A b∧∀ i j,i<l.length→j<k→w.cell? ⟨b,o+i * k+j,none⟩=(row i)[j]?
  len:∀ i,i<l.length→(row i).length=k
  each:∀ i,i<l.length→C A w (row i) (l.getD i default)
def RecsAt {α : Type} [Inhabited α] (C:Thing α) (k:Nat) (A:Nat→Prop) (w:World) (v:Value) (l:List α):Prop:=
  ∃ p cap,∃ row:Nat→List Value,v=.slice p l.length cap∧l.length≤cap∧cap≤9223372036854775807∧l.length≤70368744177664∧RecRow C k A w p row l
section
variable {α : Type} [Inhabited α] {C:Thing α} {k:Nat} {A A' R:Nat→Prop} {w w':World} {p:Option Addr} {row:Nat→List Value} {l:List α} {v:Value}
theorem RecRow.elem (h:RecRow C k A w p row l) {i:Nat} (hi:i<l.length):∃ b o,p=some ⟨b,o,none⟩∧¬ A b∧∀ j,j<k→w.cell? ⟨b,o+i * k+j,none⟩=(row i)[j]? := by
  obtain ⟨b,o,hp,hA,hc⟩:=h.at_ (by rintro rfl;simp at hi);exact ⟨b,o,hp,hA,fun j hj=>hc i j hi hj⟩
theorem RecRow.elemAt {b o:Nat} (h:RecRow C k A w (some ⟨b,o,none⟩) row l) {i:Nat} (hi:i<l.length):∀ j,j<k→w.cell? ⟨b,o+i * k+j,none⟩=(row i)[j]? := by
  obtain ⟨b',o',e,-,hc⟩:=h.elem hi;simp only [Option.some.injEq,Addr.mk.injEq] at e;intro j hj;rw [e.1,e.2.1];exact hc j hj
theorem RecRow.cell {b o:Nat} (h:RecRow C k A w (some ⟨b,o,none⟩) row l) {i j:Nat} {u:Value} (hi:i<l.length) (hu:(row i)[j]? = some u):w.cell? ⟨b,o+i * k+j,none⟩=some u:=by
  have hj:=(List.getElem?_eq_some_iff.1 hu).1;rw [h.len i hi] at hj;rw [h.elemAt hi j hj,hu]
variable [Car C k]
theorem RecRow.move (hc:∀ (a:Addr) v,¬ A a.block→w.cell? a=some v→w'.cell? a=some v∧¬ A' a.block) (h:RecRow C k A w p row l):RecRow C k A' w' p row l:=by
  refine ⟨fun hne=>?_,h.len,fun i hi=>Car.move hc (h.each i hi)⟩;obtain ⟨b,o,e,hA,hcell⟩:=h.at_ hne;have h5:∀ i j,i<l.length→j<k→∃ v,(row i)[j]? = some v:=fun i j hi hj=>⟨_,List.getElem?_eq_getElem (by rw [h.len i hi];exact hj)⟩
  refine ⟨b,o,e,?_,fun i j hi hj=>?_⟩
  · have h0:0<l.length:=List.length_pos_iff.2 hne;have hk:0<k:=Car.pos C;obtain ⟨v,hv⟩:=h5 0 0 h0 hk;exact (hc ⟨b,o+0 * k+0,none⟩ v hA (by rw [hcell 0 0 h0 hk,hv])).2
  · obtain ⟨v,hv⟩:=h5 i j hi hj;rw [hv];exact (hc _ v hA (by rw [hcell i j hi hj,hv])).1
theorem RecRow.carryR (h:RecRow C k A w p row l) (g:Gr R w w') (hR:∀ j,R j→A j):RecRow C k A w' p row l:=h.move fun _ _ hA hv=>⟨g.cell hv (fun hr=>hA (hR _ hr)),hA⟩
theorem RecRow.carry (h:RecRow C k A w p row l) (g:Bel w w'):RecRow C k A w' p row l:=h.carryR g (fun _ f=>f.elim)
theorem RecRow.mono (h:RecRow C k A w p row l) (hA:∀ b,b<w.heap.size→A' b→A b):RecRow C k A' w p row l:=h.move fun _ _ hn hv=>⟨hv,fun h'=>hn (hA _ (World.block_lt_of_cell? w _ hv) h')⟩
theorem RecRow.up (h:RecRow C k A w p row l):RecRow C k (fun j=>A j∨w.heap.size≤j) w p row l:=h.mono fun b hb h'=>h'.resolve_right om_
theorem RecsAt.move (hc:∀ (a:Addr) v,¬ A a.block→w.cell? a=some v→w'.cell? a=some v∧¬ A' a.block) (h:RecsAt C k A w v l):RecsAt C k A' w' v l:=by
  obtain ⟨p,cap,row,e,h1,h2,h3,h4⟩:=h;exact ⟨p,cap,row,e,h1,h2,h3,h4.move hc⟩
theorem RecsAt.carryR (h:RecsAt C k A w v l) (g:Gr R w w') (hR:∀ j,R j→A j):RecsAt C k A w' v l:=h.move fun _ _ hA hv=>⟨g.cell hv (fun hr=>hA (hR _ hr)),hA⟩
theorem RecsAt.carry (h:RecsAt C k A w v l) (g:Bel w w'):RecsAt C k A w' v l:=h.carryR g (fun _ f=>f.elim)
theorem RecsAt.mono (h:RecsAt C k A w v l) (hA:∀ b,b<w.heap.size→A' b→A b):RecsAt C k A' w v l:=h.move fun _ _ hn hv=>⟨hv,fun h'=>hn (hA _ (World.block_lt_of_cell? w _ hv) h')⟩
theorem RecsAt.up (h:RecsAt C k A w v l):RecsAt C k (fun j=>A j∨w.heap.size≤j) w v l:=h.mono fun b hb h'=>h'.resolve_right om_
omit [Car C k] in
theorem RecsAt.nil {p:Option Addr} {cap:Nat} (hc:cap≤9223372036854775807):RecsAt C k A w (.slice p 0 cap) ([]:List α):=
  ⟨p,cap,fun _=>[],rfl,by simp,hc,by simp,⟨fun h=>absurd rfl h,fun i h=>absurd h (by simp),fun i h=>absurd h (by simp)⟩⟩
omit [Car C k] in
theorem RecsAt.one (h:RecsAt C k A w v l):v.oneCell'=true:=by obtain ⟨_,_,_,rfl,-⟩:=h;rfl
end
def RecOwn {α : Type} [Inhabited α] (C:Thing α) (k:Nat) (A:Nat→Prop) (w:World) (base:Nat) (e:TypeId) (v:Value) (l:List α):Prop:=
  ∃ rows:List (List Value),rows.length=l.length∧Own w base e k v l.length rows.flatten∧(∀ i,i<l.length→(rows.getD i []).length=k)∧∀ i,i<l.length→C A w (rows.getD i []) (l.getD i default)
theorem flatk {k:Nat} {rows:List (List Value)} (h:∀ r∈rows,r.length=k) {i j:Nat} (hj:j<k) (hi:i<rows.length):rows.flatten[i * k+j]? = (rows.getD i [])[j]? := by
  induction rows generalizing i with
  | nil=>simp at hi
  | cons r rows ih=>
    have hr:=h r (by simp);cases i with
    | zero=>simp [List.getElem?_append_left,hr,hj]
    | succ i=>
      have e:(i+1) * k+j=i * k+j+k:=by rw [Nat.add_mul,Nat.one_mul];omega
      rw [List.flatten_cons,List.getElem?_append_right (by rw [hr,e];omega),hr,e,Nat.add_sub_cancel,ih (fun r' h'=>h r' (by simp [h'])) (by simpa using hi)];simp
section
variable {α : Type} [Inhabited α] {C:Thing α} {k base:Nat} {e:TypeId} {A A' R:Nat→Prop} {w w':World} {l:List α} {v v':Value}
theorem RecOwn.nil:RecOwn C k A w base e (.slice none 0 0) ([]:List α):=⟨[],rfl,own_nil,fun i h=>absurd h (by simp),fun i h=>absurd h (by simp)⟩
theorem RecOwn.own (h:RecOwn C k A w base e v l):∃ xs,Own w base e k v l.length xs:=by
  obtain ⟨rows,-,ho,-⟩:=h;exact ⟨_,ho⟩
theorem RecOwn.lt (h:RecOwn C k A w base e v l) {j:Nat} (hj:some j=v.ownBlock):base≤j∧j<w.heap.size:=by
  obtain ⟨xs,ho⟩:=h.own;exact Own.lt ho hj
theorem RecOwn.one (h:RecOwn C k A w base e v l):v.oneCell'=true:=by obtain ⟨xs,ho⟩:=h.own;exact own_one ho
theorem RecOwn.shape (h:RecOwn C k A w base e v l):∃ a c,v=.slice a l.length c∧l.length≤c:=by obtain ⟨xs,ho⟩:=h.own;exact own_shape ho
variable [Car C k]
theorem RecOwn.carryA (h:RecOwn C k A w base e v l) (g:Gr R w w') (hR:∀ j,some j=v.ownBlock→¬ R j) (hRA:∀ j,R j→A j) (hA:∀ j,A' j→A j):RecOwn C k A' w' base e v l:=by
  obtain ⟨rows,h1,h2,h3,h4⟩:=h;exact ⟨rows,h1,Own.carryR h2 g hR,h3,fun i hi=>Car.mono (Car.carryR (h4 i hi) g hRA) fun j _ hj=>hA j hj⟩
theorem RecOwn.carry (h:RecOwn C k A w base e v l) (g:Bel w w'):RecOwn C k A w' base e v l:=h.carryA g (fun _ _ f=>f) (fun _ f=>f.elim) (fun _ h=>h)
theorem RecOwn.snoc {rows:List (List Value)} {cs:List Value} {t:α} (h1:rows.length=l.length) (h3:∀ i,i<l.length→(rows.getD i []).length=k) (h4:∀ i,i<l.length→C A w (rows.getD i []) (l.getD i default))
    (ht:C A w cs t) (ho:Own w' base e k v' (l.length+1) (rows.flatten++cs)) (g:Gr R w w') (hv:∀ j,R j→A j) (hA:∀ j,A' j→A j):RecOwn C k A' w' base e v' (l++[t]):=by
  refine ⟨rows++[cs],by simp [h1],?_,fun i hi=>?_,fun i hi=>?_⟩
  · have e1:(rows++[cs]).flatten=rows.flatten++cs:=by simp
    rw [e1,List.length_append];exact ho
  · rw [getD_snoc (by simpa [h1] using hi)];split
    · exact h3 i om_
    · exact Car.len ht
  · rw [getD_snoc (by simpa [h1] using hi),getD_snoc hi];by_cases hlt:i<l.length
    · rw [if_pos om_,if_pos hlt];exact Car.mono (Car.carryR (h4 i hlt) g hv) fun j _ hj=>hA j hj
    · rw [if_neg om_,if_neg hlt];exact Car.mono (Car.carryR ht g hv) fun j _ hj=>hA j hj
theorem RecOwn.done (h:RecOwn C k A w base e v l) (hl:l.length≤70368744177664) (hA:∀ j,A' j→A j) (hb:∀ j,base≤j→¬ A' j):RecsAt C k A' w v l:=by
  obtain ⟨rows,h1,h2,h3,h4⟩:=h;rcases Own.open h2 with ⟨rfl,hk,-⟩ | ⟨b,cap,tl,rfl,hbb,hcap,hcm,hbx⟩
  · have hn:l=[]:=List.eq_nil_of_length_eq_zero hk;subst hn;exact RecsAt.nil (by simp)
  · refine ⟨some ⟨b,0,none⟩,cap,fun i=>rows.getD i [],rfl,hcap,hcm,hl,⟨fun _=>⟨b,0,rfl,hb b hbb,fun i j hi hj=>?_⟩,h3,fun i hi=>Car.mono (h4 i hi) fun j _ hj=>hA j hj⟩⟩;have hr:∀ r∈rows,r.length=k:=fun r hr=>by
      obtain ⟨i,hi,rfl⟩:=List.getElem_of_mem hr;have:=h3 i om_
      rwa [List.getD_eq_getElem?_getD,List.getElem?_eq_getElem hi] at this
    have hf:=flatk hr hj (by omega:i<rows.length);have h5:(rows.getD i []).length=k:=h3 i hi;have hv:(rows.getD i [])[j]? = some ((rows.getD i [])[j]'om_):=List.getElem?_eq_getElem om_;show w.cell? ⟨b,0+i * k+j,none⟩=(rows.getD i [])[j]?;rw [hv] at hf ⊢;have hlt:i * k+j<rows.flatten.length:=(List.getElem?_eq_some_iff.1 hf).1;rw [Nat.zero_add];exact hbx.cell (by rw [List.getElem?_append_left hlt];exact hf)
omit [Car C k] in
theorem recs_of_box {b:Nat} {t:TypeId} (rows:List (List Value)) (l:List α) (h:Box w b t rows.flatten) (hA:¬ A b) (hl:l.length≤70368744177664) (hr:rows.length=l.length)
    (h3:∀ i,i<l.length→(rows.getD i []).length=k) (h4:∀ i,i<l.length→C A w (rows.getD i []) (l.getD i default)):RecsAt C k A w (.slice (some ⟨b,0,none⟩) l.length l.length) l:=by
  refine ⟨some ⟨b,0,none⟩,l.length,fun i=>rows.getD i [],rfl,Nat.le_refl _,by omega,hl,⟨fun _=>⟨b,0,rfl,hA,fun i j hi hj=>?_⟩,h3,h4⟩⟩;have hr:∀ r∈rows,r.length=k:=fun r hr=>by
    obtain ⟨i,hi,rfl⟩:=List.getElem_of_mem hr;have:=h3 i om_
    rwa [List.getD_eq_getElem?_getD,List.getElem?_eq_getElem hi] at this
  have hf:=flatk hr hj (by omega:i<rows.length);have h5:(rows.getD i []).length=k:=h3 i hi;have hv:(rows.getD i [])[j]? = some ((rows.getD i [])[j]'om_):=List.getElem?_eq_getElem om_;show w.cell? ⟨b,0+i * k+j,none⟩=(rows.getD i [])[j]?;rw [hv] at hf ⊢;exact h.cell0 hf |> fun e=>by rw [← e];congr 2;omega
end
end Go.Gx
namespace Go.Gx
open Go.ChangeShapes Go.WideShapes Go.Deep Go.RowKit
section
variable {H:Type} {enc:TypeId × Value→H} {P:Program}
def OAll (O:TypeId→World→Value→Prop) (W:World):List TypeId→List Value→Prop
  | [],[]=>True
  | t :: ts,v :: vs=>O t W v∧OAll O W ts vs
  | _,_=>False
theorem o_args {O:TypeId→World→Value→Prop} {W:World} {base:Nat}:∀ {ts:List TypeId} {vs:List Value} {ds:List (DataW H)} {ps:List MemPlace},
    (∀ t∈ts,∀ (v:Value) (d:DataW H) (p:List MemPlace),Value.okWide P W .any base t v→DataW.Trod enc P W 0 (fun _=>true) true t v d p→(d.weights P t).all (· ≤ reachBytes)=true→O t W v)→
    (∀ (j:Nat) v t,vs[j]? = some v→ts[j]? = some t→Value.okWide P W .any base t v)→DataW.TrodAll enc P W 0 (fun _=>true) true ts vs ds ps→
    (DataW.weightsEach P ts ds).all (· ≤ reachBytes)=true→OAll O W ts vs∧ds.length=ts.length
  | [],vs,ds,ps,_,_,h,_=>by
    obtain ⟨rfl,rfl,rfl⟩:=trodAll_nil h;exact ⟨trivial,rfl⟩
  | t :: ts,vs,ds,ps,hO,hv,h,hw=>by
    obtain ⟨v,vs,d,ds,a,b,rfl,rfl,rfl,h1,h2⟩:=trodAll_cons h;rw [DataW.weightsEach,List.all_append,Bool.and_eq_true] at hw;obtain ⟨e1,e2⟩:=o_args (fun t ht=>hO t (by simp [ht])) (fun j v t hj ht=>hv (j+1) v t hj ht) h2 hw.2;exact ⟨⟨hO t (by simp) v d a (hv 0 v t rfl rfl) h1 hw.1,e1⟩,by simp [e2]⟩
theorem lifted_of {C:Checked} {os:Os} {f:FuncId} {fn:Func} {s:ChangeSpec} {conds:List PathCond} {apart fresh handsOn again:Bool} {ts:List TypeId} {tb:TypeId} (O:TypeId→World→Value→Prop)
    (hps:fn.params.toList=ts) (hv:s.vars=[]) (hres:fn.resultTypes=#[tb]) (hb:C.prog.underlying tb=some .bool)
    (hl:laidOutB C.prog=true) (hrd:∀ t∈ts,C.prog.readableRec t=true∧t<C.prog.types.size)
    (hs:∀ ds:List (DataW H),ds.length=ts.length→s.fn H ds={ results:=[.lit (.bool true)],args:=ds })
    (own:ownKnob C.prog.godebug=none) (started:os.Started) (noInit:C.prog.inits.idxOf? f=none) (hfn:C.prog.funcs[f]? = some fn)
    (witness:∃ (w:World) (tape:Tape) (i:Input),w.os=os∧(w.forCall tape i).Shaped C.prog∧i.vars=[]∧Input.okWide C.prog (w.forCall tape i) .any w.heap.size f i∧
      s.pre6 enc C.prog fn conds apart (w.forCall tape i).memory i.args∧({}:Assume).holds C.prog (lone (Frame.enter C.prog f i.args .normal) [] (w.forCall tape i)))
    (hO:∀ t∈ts,∀ (W:World) (base:Nat) (v:Value) (d:DataW H) (p:List MemPlace),Value.okWide C.prog W .any base t v→DataW.Trod enc C.prog W 0 (fun _=>true) true t v d p→(d.weights C.prog t).all (· ≤ reachBytes)=true→O t W v)
    (contract:∀ (w:World) (vs:List Value),OAll O w ts vs→Ret C.prog f vs.toArray w fun v w'=>v=.bool true∧Bel w w'):
    ReturnsInHanded {} C os f .any (s.pre6 enc C.prog fn conds apart) (s.post enc C.prog fn apart fresh handsOn again):=by
  refine returnsInHanded_of_change_sized own started noInit hfn witness ?_;intro W base args ds gs before hval hW _ hwt _;obtain ⟨p,q,hA,hV,rfl,hz,hn⟩:=id hW;have hV':=hV;rw [hv] at hV';obtain ⟨rfl,rfl⟩:=trodVars_none hV';rw [hps] at hA;have hvt:s.plain.varTypes C.prog=[]:=by
    have:s.plain.vars=[]:=hv;simp [DataSpec.varTypes,this]
  rw [hvt,List.append_nil,List.append_nil,hps] at hwt;obtain ⟨e1,e2⟩:=o_args (O:=O) (base:=base) (fun t ht v d p=>hO t ht W base v d p) (fun j v t hj ht=>hval j t v (by rw [← hps] at ht;simpa using ht) (by simpa using hj)) hA hwt;have hr:=contract W args.toList e1;rw [Array.toArray_toList] at hr;refine Calls.mono hr fun e w' ⟨v,he,hv',hB⟩=>⟨v,he,?_⟩
  subst hv';exact post_of_bel hl (fun t ht=>by rw [hps] at ht;exact hrd t ht) hv hres hb hW (by rw [List.append_nil];exact hs ds e2) hB
variable {w:World} {base:Nat} {spare:Nat→Bool} {held:Bool}
end
end Go.Gx
