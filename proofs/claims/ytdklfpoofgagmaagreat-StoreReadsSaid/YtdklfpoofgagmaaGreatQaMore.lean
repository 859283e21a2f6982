/- More operations: slices and maps against nil, slices made and joined. Conditions: none. -/
import Derived.Test.YtdklfpoofgagmaaGreatQaDef
import Derived.Test.YtdklfpoofgagmaaGreatQaNamed
import Derived.Test.YtdklfpoofgagmaaGreatQaRowG
namespace Go.Gx
open Go.Proofs
theorem Box.rowD {w:World} {b:Nat} {t:TypeId} {cs:List Value} (h:Box w b t cs) (o:Nat) {k:Nat} (hl:(cs.drop o).length=k):∀ j,j<k→w.cell? ⟨b,0+o+j,none⟩=(cs.drop o)[j]? := fun j hj=>by
  have hj':o+j<cs.length:=by rw [List.length_drop] at hl;omega
  rw [List.getElem?_drop,List.getElem?_eq_getElem hj',Nat.zero_add];exact h.cell (List.getElem?_eq_getElem hj')
theorem RecRow.rowD {α : Type} [Inhabited α] {C:Thing α} {k:Nat} {A:Nat→Prop} {w:World} {b o:Nat} {row:Nat→List Value} {l:List α} (h:RecRow C k A w (some ⟨b,o,none⟩) row l) {i:Nat} (hi:i<l.length) (off:Nat) {m:Nat} (hl:((row i).drop off).length=m):
    ∀ j,j<m→w.cell? ⟨b,o+i * k+off+j,none⟩=((row i).drop off)[j]? := fun j hj=>by
  have hj':off+j<(row i).length:=by rw [List.length_drop] at hl;omega
  rw [List.getElem?_drop,List.getElem?_eq_getElem hj',Nat.add_assoc];exact h.cell hi (List.getElem?_eq_getElem hj')
section
variable {P:Program} {n:Nat} {Q:Post} {D:List Deferred} {E:Env} {w:World}
theorem addp (b o j:Nat):(⟨b,o,none⟩:Addr).add j=⟨b,o+j,none⟩:=by cases j <;> simp [Addr.add]
theorem flat_len {k:Nat}:∀ {rows:List (List Value)},(∀ r∈rows,r.length=k)→rows.flatten.length=rows.length * k
  | [],_=>by simp
  | r :: rows,h=>by
    rw [List.flatten_cons,List.length_append,h r (by simp),flat_len (fun q hq=>h q (by simp [hq])),List.length_cons,Nat.add_mul,Nat.one_mul,Nat.add_comm]
def HoldsN (w:World) (u:Value) (m:Nat) (news:List Value):Prop:=
  (∃ a c,u=.slice (some a) m c∧∀ j x,news[j]? = some x→w.cell? (a.add j)=some x)∨(∃ c,u=.slice none 0 c∧m=0∧news=[])
theorem HoldsN.carry {w':World} {u:Value} {m:Nat} {news:List Value} (h:HoldsN w u m news) (g:Bel w w'):HoldsN w' u m news:=by
  rcases h with ⟨a,c,rfl,h⟩ | h
  · exact .inl ⟨a,c,rfl,fun j x hj=>g.keep (h j x hj)⟩
  · exact .inr h
theorem holdsN_box {b k:Nat} {t:TypeId} {cs:List Value} (h:Box w b t cs):HoldsN w (.slice (some ⟨b,0,none⟩) k k) k cs:=.inl ⟨_,_,rfl,h.news⟩
theorem StrsAt.holds {A:Nat→Prop} {v:Value} {l:List Str} (h:StrsAt A w v l):HoldsN w v l.length (l.map S):=by
  obtain ⟨p,cap,rfl,h1,h2,h3,hx,h4⟩:=h;by_cases hl:l=[]
  · subst hl;cases p with
    | none=>exact .inr ⟨cap,rfl,rfl,rfl⟩
    | some a=>exact .inl ⟨a,cap,rfl,fun j x hj=>by simp at hj⟩
  · obtain ⟨b,o,rfl,-,hc⟩:=h4 hl;refine .inl ⟨_,cap,rfl,fun j x hj=>?_⟩;have hj':j<l.length:=by simpa using (List.getElem?_eq_some_iff.1 hj).1
    have e:=hc j hj';rw [List.getElem?_map,List.getElem?_eq_getElem hj'] at hj;simp only [Option.map_some,Option.some.injEq] at hj;rw [List.getD_eq_getElem?_getD,List.getElem?_eq_getElem hj',Option.getD_some] at e;rw [addp,e,hj]
theorem RecRow.holds {α : Type} [Inhabited α] {C:Thing α} {k:Nat} {A:Nat→Prop} {p:Option Addr} {row:Nat→List Value} {l:List α} {cap:Nat} (h:RecRow C k A w p row l):HoldsN w (.slice p l.length cap) l.length ((List.range l.length).map row).flatten:=by
  by_cases hl:l=[]
  · subst hl;cases p with
    | none=>exact .inr ⟨cap,rfl,rfl,rfl⟩
    | some a=>exact .inl ⟨a,cap,rfl,fun j x hj=>by simp at hj⟩
  · obtain ⟨b,o,rfl,-,hc⟩:=h.at_ hl;refine .inl ⟨_,cap,rfl,fun j x hj=>?_⟩;have hr:∀ r∈(List.range l.length).map row,r.length=k:=fun r hr=>by
      obtain ⟨i,hi,rfl⟩:=List.mem_map.1 hr;exact h.len i (by simpa using hi)
    have hlen:((List.range l.length).map row).flatten.length=l.length * k:=by rw [flat_len hr];simp
    have hk:0<k:=by
      have hlt:=(List.getElem?_eq_some_iff.1 hj).1;rcases Nat.eq_zero_or_pos k with h0 | h0
      · rw [hlen,h0,Nat.mul_zero] at hlt;omega
      · exact h0
    have hlt:=(List.getElem?_eq_some_iff.1 hj).1;rw [hlen] at hlt;have hi:j / k<l.length:=Nat.div_lt_of_lt_mul (by rw [Nat.mul_comm];exact hlt);have e:j / k * k+j % k=j:=by rw [Nat.mul_comm];exact Nat.div_add_mod j k
    have hf:=flatk hr (i:=j / k) (Nat.mod_lt j hk) (by simpa using hi);rw [e,hj] at hf;have hrow:((List.range l.length).map row).getD (j / k) []=row (j / k):=by simp [hi]
    rw [hrow] at hf;rw [addp,show o+j=o+j / k * k+j % k by omega,hc _ _ hi (Nat.mod_lt j hk),← hf]
theorem L.appendN {base:Nat} {e:TypeId} {sz:Nat} {v:Value} {k:Nat} {xs:List Value} {ops:Array Oper} {r:List Oper} {d:Nat} {x y:Operand} {T t:TypeId} {p:String} {af:Array Edge} {u:Value} {m:Nat} {news:List Value}
    (hu:P.underlying T=some (.slice e)) (he:elT P e sz=true) (hx:ev E x=v) (hy:ev E y=u) (hd:Nat.blt d n=true) (h:Own w base e sz v k xs)
    (hl:news.length=m * sz) (hn:HoldsN w u m news) (h1:∀ u∈news,u.oneCell'=true) (hk:(k+m) * 200≤140737488355328) (hb:base≤w.heap.size)
    (kk:∀ v' w',Own w' base e sz v' (k+m) (xs++news)→Gr (fun j=>some j=v.ownBlock) w w'→(v'.ownBlock=v.ownBlock∨v'.ownBlock=some w.heap.size)→L P n ops Q r D (upd E d v') w'):
    L P n ops Q (⟨some d,.call ⟨.builtin .append,#[x,y],#[T,T]⟩,t,p,af,none⟩ :: r) D E w:=by
  rcases hn with ⟨a,c,rfl,hn⟩ | ⟨c,rfl,rfl,rfl⟩
  · exact L.append hu he hx hy hd h hl hn h1 hk hb (fun v' w' a1 a2 _ a4=>kk v' w' a1 a2 a4)
  · obtain ⟨i,z,hi,-⟩:=elT_spec he;have hrun:(Builtin.append_ #[T,T] t #[v,.slice none 0 c]).run P w=.ok v w:=by
      rcases h.2 with ⟨rfl,rfl⟩ | ⟨g,cap,cur,rfl,_,_,hnc,_⟩
      · simp [Builtin.append_,run_underlying hu,sizeOf,typeInfo,hi,Builtin.lenOf,Builtin.firstCells]
      · simp [Builtin.append_,run_underlying hu,sizeOf,typeInfo,hi,Builtin.lenOf,Builtin.firstCells,hnc,storeCells]
    refine L.val (x_append hx hy hrun) hd (kk v w (by simpa using h) (Gr.refl _ _) (.inl rfl))
end
end Go.Gx
namespace Go.Gx
open Go.Proofs
theorem flatk_take {k:Nat} {rows:List (List Value)} (h:∀ r∈rows,r.length=k) (i:Nat):(rows.take i).flatten=rows.flatten.take (i * k)∧(rows.drop i).flatten=rows.flatten.drop (i * k):=by
  induction rows generalizing i with
  | nil=>simp
  | cons r rows ih=>
    have hr:=h r (by simp);cases i with
    | zero=>simp
    | succ i=>
      obtain ⟨h1,h2⟩:=ih (fun q hq=>h q (by simp [hq])) i;have e:(i+1) * k=k+i * k:=by rw [Nat.add_mul,Nat.one_mul,Nat.add_comm]
      constructor
      · rw [List.take_succ_cons,List.flatten_cons,List.flatten_cons,h1,e,List.take_append,hr,Nat.add_sub_cancel_left,List.take_of_length_le (l:=r) om_]
      · rw [List.drop_succ_cons,List.flatten_cons,h2,e,List.drop_append,hr,Nat.add_sub_cancel_left,List.drop_of_length_le (l:=r) om_,List.nil_append]
section
variable {w:World}
theorem HoldsN.take {p:Option Addr} {n cap sz:Nat} {xs:List Value} (h:HoldsN w (.slice p n cap) n xs) {k:Nat} (hk:k≤n):HoldsN w (.slice p k cap) k (xs.take (k * sz)):=by
  rcases h with ⟨a,c,e,hc⟩ | ⟨c,e,h0,hx⟩
  · cases e;exact .inl ⟨a,cap,rfl,fun j x hj=>hc j x (by rw [List.getElem?_take] at hj;split at hj;exact hj;cases hj)⟩
  · cases e;have:k=0:=by omega
    subst this;exact .inr ⟨cap,rfl,rfl,by simp⟩
theorem HoldsN.drop {p:Option Addr} {n cap sz:Nat} {xs:List Value} (h:HoldsN w (.slice p n cap) n xs) (hl:xs.length=n * sz) (hn:n≤cap) {k:Nat} (hk:k≤n):HoldsN w (.slice (if cap=k then p else p.map (·.add (k * sz))) (n - k) (cap - k)) (n - k) (xs.drop (k * sz)):=by
  rcases h with ⟨a,c,e,hc⟩ | ⟨c,e,h0,hx⟩
  · cases e;by_cases hck:cap=k
    · have hkn:k=n:=by omega
      rw [if_pos hck];refine .inl ⟨a,_,rfl,fun j x hj=>?_⟩;rw [List.drop_of_length_le (by rw [hl,hkn];exact Nat.le_refl _)] at hj;simp at hj
    · rw [if_neg hck];refine .inl ⟨_,_,rfl,fun j x hj=>?_⟩;rw [List.getElem?_drop] at hj;have h1:=hc _ x hj;obtain ⟨b,o,spot⟩:=a;have hlt:=(List.getElem?_eq_some_iff.1 hj).1;have hsp:spot=none:=by simpa [Addr.add] using World.cell?_spot (hc 0 _ (List.getElem?_eq_getElem (by omega:0<xs.length)))
      subst hsp;show w.cell? (((⟨b,o,none⟩:Addr).add (k * sz)).add j)=some x;rw [addp,addp];rw [addp] at h1;rw [← h1];congr 2;omega
  · cases e;have:k=0:=by omega
    subst this;refine .inr ⟨cap - 0,?_,rfl,by rw [hx];simp⟩;split <;> rfl
def RowsC {α : Type} [Inhabited α] (C:Thing α) (A:Nat→Prop) (w:World) (rows:List (List Value)) (l:List α):Prop:=rows.length=l.length∧∀ i,i<l.length→C A w (rows.getD i []) (l.getD i default)
theorem RowsC.append {α : Type} [Inhabited α] {C:Thing α} {A:Nat→Prop} {r r':List (List Value)} {l l':List α} (h:RowsC C A w r l) (h':RowsC C A w r' l'):RowsC C A w (r++r') (l++l'):=by
  refine ⟨by simp [h.1,h'.1],fun i hi=>?_⟩;simp only [List.getD_eq_getElem?_getD];by_cases hlt:i<l.length
  · rw [List.getElem?_append_left (by rw [h.1];exact hlt),List.getElem?_append_left hlt];have:=h.2 i hlt;simpa only [List.getD_eq_getElem?_getD] using this
  · rw [List.getElem?_append_right (by rw [h.1];omega),List.getElem?_append_right om_,h.1];have:=h'.2 (i - l.length) (by simp at hi;omega);simpa only [List.getD_eq_getElem?_getD] using this
theorem RowsC.one {α : Type} [Inhabited α] {C:Thing α} {A:Nat→Prop} {r:List Value} {x:α} (h:C A w r x):RowsC C A w [r] [x]:=⟨rfl,fun i hi=>by match i,hi with | 0,_=>exact h⟩
theorem RowsC.nil {α : Type} [Inhabited α] {C:Thing α} {A:Nat→Prop}:RowsC C A w [] ([]:List α):=⟨rfl,fun i hi=>absurd hi (by simp)⟩
theorem RowsC.take {α : Type} [Inhabited α] {C:Thing α} {A:Nat→Prop} {r:List (List Value)} {l:List α} (h:RowsC C A w r l) (k:Nat):RowsC C A w (r.take k) (l.take k):=by
  refine ⟨by simp [h.1],fun i hi=>?_⟩;have hi2:i<l.length∧i<k:=by rw [List.length_take] at hi;omega
  have:=h.2 i hi2.1;simp only [List.getD_eq_getElem?_getD] at this ⊢
  rwa [List.getElem?_take_of_lt hi2.2,List.getElem?_take_of_lt hi2.2]
theorem RowsC.drop {α : Type} [Inhabited α] {C:Thing α} {A:Nat→Prop} {r:List (List Value)} {l:List α} (h:RowsC C A w r l) (k:Nat):RowsC C A w (r.drop k) (l.drop k):=by
  refine ⟨by simp [h.1],fun i hi=>?_⟩;have hi2:k+i<l.length:=by rw [List.length_drop] at hi;omega
  have:=h.2 (k+i) hi2;simp only [List.getD_eq_getElem?_getD] at this ⊢
  rwa [List.getElem?_drop,List.getElem?_drop]
section
variable {α : Type} [Inhabited α] {C:Thing α} {k:Nat} [Car C k] {A A' R:Nat→Prop} {r:List (List Value)} {l:List α}
theorem RowsC.lens (h:RowsC C A w r l):∀ q∈r,q.length=k:=fun q hq=>by
  obtain ⟨i,hi,rfl⟩:=List.getElem_of_mem hq;have:=Car.len (h.2 i (by rw [← h.1];exact hi))
  rwa [List.getD_eq_getElem?_getD,List.getElem?_eq_getElem hi] at this
omit [Car C k] in
omit [Car C k] in
theorem RowsC.carryR {k:Nat} [Car C k] {w':World} (h:RowsC C A w r l) (g:Gr R w w') (hR:∀ j,R j→A j):RowsC C A w' r l:=⟨h.1,fun i hi=>Car.carryR (h.2 i hi) g hR⟩
omit [Car C k] in
theorem RowsC.carry {k:Nat} [Car C k] {w':World} (h:RowsC C A w r l) (g:Bel w w'):RowsC C A w' r l:=⟨h.1,fun i hi=>Car.carry (h.2 i hi) g⟩
omit [Car C k] in
theorem RowsC.mono {k:Nat} [Car C k] (h:RowsC C A w r l) (hA:∀ b,b<w.heap.size→A' b→A b):RowsC C A' w r l:=⟨h.1,fun i hi=>Car.mono (h.2 i hi) hA⟩
theorem RowsC.done {base:Nat} {e:TypeId} {v:Value} (h:RowsC C A w r l) (ho:Own w base e k v l.length r.flatten) (hl:l.length≤70368744177664) (hA:∀ j,A' j→A j) (hb:∀ j,base≤j→¬ A' j):RecsAt C k A' w v l:=
  RecOwn.done (A:=A) ⟨r,h.1,ho,fun i hi=>Car.len (h.2 i hi),h.2⟩ hl hA hb
theorem RowsC.doneB {base:Nat} {e:TypeId} {v:Value} (h:RowsC C A w r l) (ho:Own w base e k v l.length r.flatten) (hl:l.length≤70368744177664) (hA:∀ j,A' j→A j) (hb:∀ j,some j=v.ownBlock→¬ A' j):RecsAt C k A' w v l:=by
  have h1:=h.done (A':=fun j=>A' j∧j<base) ho hl (fun j hj=>hA j hj.1) (fun j h1 h2=>by omega);obtain ⟨p,cap,row,e1,g1,g2,g3,hR⟩:=h1;refine ⟨p,cap,row,e1,g1,g2,g3,fun hne=>?_,hR.len,fun i hi=>?_⟩
  · obtain ⟨b,o,hp,-,hc⟩:=hR.at_ hne;exact ⟨b,o,hp,hb b (by rw [e1,hp];rfl),hc⟩
  · obtain ⟨b,o,hp,-,hc⟩:=hR.at_ (by rintro rfl;simp at hi);have hrow:row i=r.getD i []:=by
      rcases Own.open ho with ⟨h1,h2,h3⟩ | ⟨g,cp,tl,h1,-,-,-,hbx⟩
      · rw [h2] at hi;omega
      · have hr:∀ q∈r,q.length=k:=h.lens;rw [h1,hp] at e1;simp only [Value.slice.injEq,Option.some.injEq,Addr.mk.injEq,and_true] at e1;obtain ⟨⟨rfl,rfl⟩,-⟩:=e1;have hri:i<r.length:=by rw [h.1];exact hi
        have hl1:(r.getD i []).length=k:=Car.len (h.2 i hi);apply List.ext_getElem?;intro j;by_cases hj:j<k
        · rw [← hc i j hi hj,Nat.zero_add,← flatk hr hj hri];have hv:(r.getD i [])[j]? = some ((r.getD i [])[j]'om_):=List.getElem?_eq_getElem om_;have hf:=flatk hr hj hri;rw [hv] at hf;have hlt:i * k+j<r.flatten.length:=(List.getElem?_eq_some_iff.1 hf).1;rw [hf];exact hbx.cell (by rw [List.getElem?_append_left hlt];exact hf)
        · rw [List.getElem?_eq_none (by rw [hR.len i hi];omega),List.getElem?_eq_none om_]
    rw [hrow];exact Car.mono (h.2 i hi) fun j _ hj=>hA j hj
omit [Car C k] in
theorem own_box_ne {base sz n:Nat} {e T:TypeId} {v:Value} {xs cs:List Value} {b:Nat} (h:Own w base e sz v n xs) (hb:Box w b T cs) (hne:Nat.beq e T=false):¬ some b=v.ownBlock:=fun hj=>by
  rcases h.2 with ⟨rfl,-⟩ | ⟨g,cap,cur,rfl,-,hg,-⟩
  · simp [Value.ownBlock] at hj
  · simp [Value.ownBlock] at hj;subst hj;unfold Box at hb;rw [hb] at hg;have:T=e:=by simp at hg;exact hg.2
    subst this;simp at hne
end
end
end Go.Gx
namespace Go.Gx
variable {P:Program} {ops:Array Oper} {Q:Exit→Act→World→Prop} {C:World→Prop}
def YF (P:Program) (ops:Array Oper) (C:World→Prop) (o:Oper) (v:Value) (a:Act):Prop:=
  (Region.wanted o (yielded ops a.tmps)=true∧∀ w,C w→(execOp a.eval o).run P w=.ok (.value v) w)∨(Region.wanted o (yielded ops a.tmps)=false∧v=undef)
theorem YF.same {o:Oper} {v:Value} {a a':Act} (hy:YF P ops C o v a) (he:execOp a'.eval o=execOp a.eval o) (hw:Region.wanted o (yielded ops a'.tmps)=Region.wanted o (yielded ops a.tmps)):YF P ops C o v a':=by
  unfold YF at *;rw [he,hw];exact hy
theorem YF.take {i:Nat} {o:Oper} {v:Value} {a:Act} (hi:ops[i]? = some o) (hy:YF P ops C o v a) {K:Act→World→Prop} {w:World} (hC:C w) (h:K (a.put o.dst v) w):wpOp P ops Q i K a w:=by
  unfold wpOp;rcases hy with ⟨h1,h2⟩ | ⟨h1,rfl⟩
  · simp only [hi,h1,if_true,Oper.wp,h2 w hC,Oper.upon];exact .inl h
  · simp only [hi];rw [if_neg (by rw [h1];simp)];exact h
theorem wpOp_lateF {j:Nat} {oi oj:Oper} {v:Value} (hj:ops[j]? = some oj) (hap:oi.apart ops oj=true)
    (hsi:∀ cs b,oi.op≠.select cs b) (hsj:∀ cs b,oj.op≠.select cs b)
    (hQ:∀ c a w,Q (.panic c) (a.put oi.dst v) w→Q (.panic c) a w) {K:Act→World→Prop} {a:Act} {w:World}
    (hy:YF P ops C oi v a) (h:wpOp P ops Q j K (a.put oi.dst v) w):
    wpOp P ops Q j (fun a' w'=>YF P ops C oi v a'∧K (a'.put oi.dst v) w') a w:=by
  obtain ⟨h1,h2,h3⟩:=Oper.apart_spec hap;have keep:∀ u,YF P ops C oi v (a.put oj.dst u):=fun u=>hy.same (execOp_put oi hsi a oj.dst u h3) (wanted_put oi a oj.dst u h3)
  have hw1:=wanted_put oj a oi.dst v h1;have he1:=execOp_put oj hsj a oi.dst v h1;unfold wpOp at h ⊢;simp only [hj] at h ⊢;rw [hw1] at h;by_cases hw:Region.wanted oj (yielded ops a.tmps)=true
  · rw [if_pos hw] at h ⊢;rcases h with h | ⟨ha,hl⟩
    · left;unfold Oper.wp at h ⊢;rw [he1] at h;generalize (execOp a.eval oj).run P w=r at h ⊢;cases r with
      | halt x w'=>
        cases x with
        | panic u=>exact hQ _ _ _ h
        | _=>exact h
      | ok x w'=>
        cases x with
        | value u=>exact ⟨keep u,by rw [← Act.put_comm a v u h2];exact h⟩
        | skip=>exact ⟨keep _,by rw [← Act.put_comm a v undef h2];exact h⟩
        | defer d=>
          refine ⟨(hy.same (a':={ a with defers:=d :: a.defers }) rfl rfl).same (execOp_put oi hsi _ oj.dst _ h3) (wanted_put oi _ oj.dst _ h3),?_⟩;rw [← Act.put_comm _ v undef h2,← Act.put_defers];exact h
        | enter f args=>
          refine Calls.mono h fun e w'' he=>?_
          cases e with
          | returned u=>exact ⟨keep u,by rw [← Act.put_comm a v u h2];exact he⟩
          | panicked c=>exact hQ _ _ _ he
          | outgrown=>exact he
        | row row args=>exact Rows.mono h fun u w'' he=>⟨keep u,by rw [← Act.put_comm a v u h2];exact he⟩
        | _=>exact h
    · exact .inr ⟨by unfold Oper.asks at *;rw [he1] at ha;exact ha,hl⟩
  · rw [if_neg hw] at h ⊢;exact ⟨keep _,by rw [← Act.put_comm a v undef h2];exact h⟩
theorem getD_out {listed:Array Bool} {st:Nat} (h:listed.size≤st):listed.getD st false=false:=by
  simp [Array.getElem?_eq_none h]
theorem wpAnyC.takeF {i st:Nat} {oi:Oper} {v:Value} (hi:ops[i]? = some oi) (hsel:∀ (j:Nat) (o:Oper) cs b,ops[j]? = some o→o.op≠.select cs b)
    (hQ:∀ c a w,Q (.panic c) (a.put oi.dst v) w→Q (.panic c) a w):
    ∀ (fuel:Nat) (listed:Array Bool) (a:Act) (w:World),listed.size≤st→
      (∀ j oj,ops[j]? = some oj→j≠i→listed.getD j true=false→(∀ e∈oj.after,Region.binds .any e=true→e.on≠i)→oi.apart ops oj=true)→
      i∈Region.ready .any ops listed→YF P ops C oi v a→
      wpAnyC P ops C st Q fuel (listed.setIfInBounds i true) (a.put oi.dst v) w→wpAnyC P ops C st Q (fuel+1) listed a w:=by
  intro fuel;induction fuel with
  | zero=>
    intro listed a w hsz _ hr hy H;have hC:C w:=H.1 (getD_out (by simpa using hsz));refine ⟨fun _=>hC,fun h=>(by rw [h] at hr;cases hr),fun j hj=>?_⟩;by_cases hji:j=i
    · subst hji;exact hy.take hi hC H
    · have:=ready_mono hj hji;rw [H.2.1] at this;cases this
  | succ fuel ih=>
    intro listed a w hsz hfree hr hy H;have hun:=(mem_ready.1 hr).1;have hC:C w:=H.here (getD_out (by simpa using hsz));refine ⟨fun _=>hC,fun h=>(by rw [h] at hr;cases hr),fun j hj=>?_⟩;by_cases hji:j=i
    · subst hji;exact hy.take hi hC H
    · have h1:=H.2.2 j (ready_mono hj hji);obtain ⟨hjun,oj,hoj,hall⟩:=mem_ready.1 hj;have hnot:∀ e∈oj.after,Region.binds .any e=true→e.on≠i:=fun e he hb heq=>by
        have h1:=hall e he hb;rw [heq,unlisted hun] at h1;cases h1
      have h2:=wpOp_lateF hoj (hfree j oj hoj hji hjun hnot) (fun cs b=>hsel i oi cs b hi) (fun cs b=>hsel j oj cs b hoj) hQ hy h1;refine wpOp_mono (fun a' w' h3=>ih (listed.setIfInBounds j true) a' w' (by simpa using hsz) (fun k ok hk hki hu hno=>?_) (ready_mono hr (Ne.symm hji)) h3.1 ?_) h2
      · refine hfree k ok hk hki ?_ hno;by_cases hjk:j=k
        · subst hjk;exact hjun
        · rw [getD_set_ne true hjk] at hu;exact hu
      · rw [Array.setIfInBounds_comm _ _ hji];exact h3.2
section
variable {n st:Nat} {K:List Deferred→Env→World→Prop} {D:List Deferred} {E:Env} {w:World}
theorem LAC.takeY {fuel:Nat} {listed:Array Bool} {i d:Nat} {o:Oper} {v:Value}
    (ho:ops[i]? = some o) (hod:o.dst=some d) (hs:Region.noSelect ops=true) (hf:Region.free .any ops listed i=true) (hr:(Region.ready .any ops listed).contains i=true) (hz:Nat.ble listed.size st=true)
    (hx:∀ a,Fr D n a E→YF P ops C o v a) (hd:Nat.blt d n=true) (k:LAC P n ops C st K fuel (listed.setIfInBounds i true) D (upd E d v) w):LAC P n ops C st K (fuel+1) listed D E w:=by
  intro a ha;refine wpAnyC.takeF ho (Region.noSelect_spec hs) ?_ fuel listed a w (Nat.le_of_ble_eq_true hz) (Region.free_spec ho hf) (by simpa using hr) (hx a ha) ?_
  · rintro c a w ⟨_,E,_,h,_⟩;cases h
  · rw [hod];exact k _ (ha.put v hd)
theorem LAC.takeN {fuel:Nat} {listed:Array Bool} {i d:Nat} {op:Op} {t:TypeId} {p:String} {af:Array Edge} {v:Value}
    (ho:ops[i]? = some ⟨some d,op,t,p,af,none⟩) (hs:Region.noSelect ops=true) (hf:Region.free .any ops listed i=true) (hr:(Region.ready .any ops listed).contains i=true) (hz:Nat.ble listed.size st=true)
    (hx:∀ w,C w→X P op t E w v w) (hd:Nat.blt d n=true) (k:LAC P n ops C st K fuel (listed.setIfInBounds i true) D (upd E d v) w):LAC P n ops C st K (fuel+1) listed D E w:=
  LAC.takeY ho rfl hs hf hr hz (fun a ha=>.inl ⟨by simp [Region.wanted],fun w hw=>by
    have:=hx w hw;unfold X at this;rw [execOp_bare,ha.eval];exact this⟩) hd k
theorem LAC.takeG {fuel:Nat} {listed:Array Bool} {i d j dj:Nat} {op:Op} {t:TypeId} {p:String} {af:Array Edge} {v:Value} {want b:Bool}
    (ho:ops[i]? = some ⟨some d,op,t,p,af,some (j,want)⟩) (hs:Region.noSelect ops=true) (hf:Region.free .any ops listed i=true) (hr:(Region.ready .any ops listed).contains i=true) (hz:Nat.ble listed.size st=true)
    (hj:(ops[j]?).bind (·.dst)=some dj) (hE:E dj=.bool b) (hb:b=want)
    (hx:∀ w,C w→X P op t E w v w) (hd:Nat.blt d n=true) (k:LAC P n ops C st K fuel (listed.setIfInBounds i true) D (upd E d v) w):LAC P n ops C st K (fuel+1) listed D E w:=
  LAC.takeY ho rfl hs hf hr hz (fun a ha=>.inl ⟨wanted_yes rfl hj ha (hb ▸ hE),fun w hw=>by
    have:=hx w hw;unfold X at this;rw [execOp_bare,ha.eval];exact this⟩) hd k
theorem LAC.takeU {fuel:Nat} {listed:Array Bool} {i d j dj:Nat} {op:Op} {t:TypeId} {p:String} {af:Array Edge} {want b:Bool}
    (ho:ops[i]? = some ⟨some d,op,t,p,af,some (j,want)⟩) (hs:Region.noSelect ops=true) (hf:Region.free .any ops listed i=true) (hr:(Region.ready .any ops listed).contains i=true) (hz:Nat.ble listed.size st=true)
    (hj:(ops[j]?).bind (·.dst)=some dj) (hE:E dj=.bool b) (hb:b=!want)
    (hd:Nat.blt d n=true) (k:LAC P n ops C st K fuel (listed.setIfInBounds i true) D (upd E d undef) w):LAC P n ops C st K (fuel+1) listed D E w:=
  LAC.takeY ho rfl hs hf hr hz (fun _ ha=>.inr ⟨wanted_no rfl hj ha hE hb,rfl⟩) hd k
theorem LAC.takeUU {fuel:Nat} {listed:Array Bool} {i d j dj:Nat} {op:Op} {t:TypeId} {p:String} {af:Array Edge} {want:Bool}
    (ho:ops[i]? = some ⟨some d,op,t,p,af,some (j,want)⟩) (hs:Region.noSelect ops=true) (hf:Region.free .any ops listed i=true) (hr:(Region.ready .any ops listed).contains i=true) (hz:Nat.ble listed.size st=true)
    (hj:(ops[j]?).bind (·.dst)=some dj) (hE:E dj=undef)
    (hd:Nat.blt d n=true) (k:LAC P n ops C st K fuel (listed.setIfInBounds i true) D (upd E d undef) w):LAC P n ops C st K (fuel+1) listed D E w:=
  LAC.takeY ho rfl hs hf hr hz (fun _ ha=>.inr ⟨wanted_undef rfl hj ha hE,rfl⟩) hd k
theorem LAC.split {fuel:Nat} {listed:Array Bool} {dj:Nat} {b:Bool} (_hE:E dj=.bool b) (ht:b=true→LAC P n ops C st K fuel listed D E w) (hf:b=false→LAC P n ops C st K fuel listed D E w):LAC P n ops C st K fuel listed D E w:=by
  cases b
  · exact hf rfl
  · exact ht rfl
theorem LAC.doneF {listed:Array Bool} (hr:Region.ready .any ops listed=[]) (hC:C w) (h:K D E w):LAC P n ops C st K 0 listed D E w:=
  fun _ ha=>⟨fun _=>hC,hr,lift_mk (by simp) ha ⟨rfl,h⟩⟩
theorem W.drawF {id:Nat} {l:List Oper} {Q:Post} (st:Nat) (hm:P.follows .mixedOrders=true) (h:∀ w1,Bel w w1→LAC P n l.toArray (Bel w) st (Q .normal) l.length (Array.replicate l.length false) D E w1):W P n (.region id l.toArray true) Q D E w:=
  W.drawT (Bel w) st hm (h _ (bel_drew _))
end
end Go.Gx
namespace Go.Gx
variable {P:Program} {ops:Array Oper} {Q:Exit→Act→World→Prop} {C0 C1:World→Prop}
def wpAnyD (P:Program) (ops:Array Oper) (C0 C1:World→Prop) (st:Nat) (Q:Exit→Act→World→Prop):Nat→Array Bool→Act→World→Prop
  | 0,listed,a,w=>C0 w∧(listed.getD st false=false→C1 w)∧Region.ready .any ops listed=[]∧Q .normal a w
  | f+1,listed,a,w=>C0 w∧(listed.getD st false=false→C1 w)∧(Region.ready .any ops listed=[]→Q .normal a w)∧∀ i∈Region.ready .any ops listed,wpOp P ops Q i (wpAnyD P ops C0 C1 st Q f (listed.setIfInBounds i true)) a w
theorem wpAnyD.any {st:Nat}:∀ (f:Nat) (listed:Array Bool) (a:Act) (w:World),wpAnyD P ops C0 C1 st Q f listed a w→wpAny P .any ops Q f listed a w
  | 0,_,_,_,h=>h.2.2
  | f+1,_,_,_,h=>⟨h.2.2.1,fun i hi=>wpOp_mono (fun _ _ h'=>wpAnyD.any f _ _ _ h') (h.2.2.2 i hi)⟩
theorem wpAnyD.here {st f:Nat} {listed:Array Bool} {a:Act} {w:World} (h:wpAnyD P ops C0 C1 st Q f listed a w):C0 w∧(listed.getD st false=false→C1 w):=by
  cases f <;> exact ⟨h.1,h.2.1⟩
theorem wpAnyD.take0 {i st:Nat} {oi:Oper} {v:Value} (hi:ops[i]? = some oi) (hsel:∀ (j:Nat) (o:Oper) cs b,ops[j]? = some o→o.op≠.select cs b)
    (hQ:∀ c a w,Q (.panic c) (a.put oi.dst v) w→Q (.panic c) a w) (hne:st≠i):
    ∀ (fuel:Nat) (listed:Array Bool) (a:Act) (w:World),
      (∀ j oj,ops[j]? = some oj→j≠i→listed.getD j true=false→(∀ e∈oj.after,Region.binds .any e=true→e.on≠i)→oi.apart ops oj=true)→
      i∈Region.ready .any ops listed→YF P ops C0 oi v a→
      wpAnyD P ops C0 C1 st Q fuel (listed.setIfInBounds i true) (a.put oi.dst v) w→wpAnyD P ops C0 C1 st Q (fuel+1) listed a w:=by
  intro fuel;induction fuel with
  | zero=>
    intro listed a w _ hr hy H;refine ⟨H.1,fun h=>H.2.1 (by rw [getD_set_ne false hne.symm];exact h),fun h=>(by rw [h] at hr;cases hr),fun j hj=>?_⟩;by_cases hji:j=i
    · subst hji;exact hy.take hi H.1 H
    · have:=ready_mono hj hji;rw [H.2.2.1] at this;cases this
  | succ fuel ih=>
    intro listed a w hfree hr hy H;have hun:=(mem_ready.1 hr).1;refine ⟨H.1,fun h=>H.2.1 (by rw [getD_set_ne false hne.symm];exact h),fun h=>(by rw [h] at hr;cases hr),fun j hj=>?_⟩;by_cases hji:j=i
    · subst hji;exact hy.take hi H.1 H
    · have h1:=H.2.2.2 j (ready_mono hj hji);obtain ⟨hjun,oj,hoj,hall⟩:=mem_ready.1 hj;have hnot:∀ e∈oj.after,Region.binds .any e=true→e.on≠i:=fun e he hb heq=>by
        have h1:=hall e he hb;rw [heq,unlisted hun] at h1;cases h1
      have h2:=wpOp_lateF hoj (hfree j oj hoj hji hjun hnot) (fun cs b=>hsel i oi cs b hi) (fun cs b=>hsel j oj cs b hoj) hQ hy h1;refine wpOp_mono (fun a' w' h3=>ih (listed.setIfInBounds j true) a' w' (fun k ok hk hki hu hno=>?_) (ready_mono hr (Ne.symm hji)) h3.1 ?_) h2
      · refine hfree k ok hk hki ?_ hno;by_cases hjk:j=k
        · subst hjk;exact hjun
        · rw [getD_set_ne true hjk] at hu;exact hu
      · rw [Array.setIfInBounds_comm _ _ hji];exact h3.2
theorem wpAnyD.take1 {i st:Nat} {oi ost:Oper} {v:Value} (hi:ops[i]? = some oi) (hsel:∀ (j:Nat) (o:Oper) cs b,ops[j]? = some o→o.op≠.select cs b)
    (hQ:∀ c a w,Q (.panic c) (a.put oi.dst v) w→Q (.panic c) a w) (hst:ops[st]? = some ost) (hdep:∃ e∈ost.after,Region.binds .any e=true∧e.on=i) (hne:st≠i):
    ∀ (fuel:Nat) (listed:Array Bool) (a:Act) (w:World),
      (listed.getD st false=true→listed.getD i false=true)→
      (∀ j oj,ops[j]? = some oj→j≠i→listed.getD j true=false→(∀ e∈oj.after,Region.binds .any e=true→e.on≠i)→oi.apart ops oj=true)→
      i∈Region.ready .any ops listed→YF P ops C1 oi v a→
      wpAnyD P ops C0 C1 st Q fuel (listed.setIfInBounds i true) (a.put oi.dst v) w→wpAnyD P ops C0 C1 st Q (fuel+1) listed a w:=by
  intro fuel;induction fuel with
  | zero=>
    intro listed a w hcl _ hr hy H;have hun:=(mem_ready.1 hr).1;have hst0:listed.getD st false=false:=by
      cases hh:listed.getD st false
      · rfl
      · have:=hcl hh;rw [unlisted hun] at this;cases this
    have hC:C1 w:=H.2.1 (by rw [getD_set_ne false hne.symm];exact hst0);refine ⟨H.1,fun _=>hC,fun h=>(by rw [h] at hr;cases hr),fun j hj=>?_⟩;by_cases hji:j=i
    · subst hji;exact hy.take hi hC H
    · have:=ready_mono hj hji;rw [H.2.2.1] at this;cases this
  | succ fuel ih=>
    intro listed a w hcl hfree hr hy H;have hun:=(mem_ready.1 hr).1;have hst0:listed.getD st false=false:=by
      cases hh:listed.getD st false
      · rfl
      · have:=hcl hh;rw [unlisted hun] at this;cases this
    have hC:C1 w:=H.2.1 (by rw [getD_set_ne false hne.symm];exact hst0);refine ⟨H.1,fun _=>hC,fun h=>(by rw [h] at hr;cases hr),fun j hj=>?_⟩;by_cases hji:j=i
    · subst hji;exact hy.take hi hC H
    · have h1:=H.2.2.2 j (ready_mono hj hji);obtain ⟨hjun,oj,hoj,hall⟩:=mem_ready.1 hj;have hnot:∀ e∈oj.after,Region.binds .any e=true→e.on≠i:=fun e he hb heq=>by
        have h1:=hall e he hb;rw [heq,unlisted hun] at h1;cases h1
      have hjst:j≠st:=fun e=>by
        subst e;rw [hst] at hoj;cases hoj;obtain ⟨e,he,hb,hon⟩:=hdep;exact hnot e he hb hon
      have h2:=wpOp_lateF hoj (hfree j oj hoj hji hjun hnot) (fun cs b=>hsel i oi cs b hi) (fun cs b=>hsel j oj cs b hoj) hQ hy h1;refine wpOp_mono (fun a' w' h3=>ih (listed.setIfInBounds j true) a' w' (fun h=>?_) (fun k ok hk hki hu hno=>?_) (ready_mono hr (Ne.symm hji)) h3.1 ?_) h2
      · rw [getD_set_ne false hjst,hst0] at h;cases h
      · refine hfree k ok hk hki ?_ hno;by_cases hjk:j=k
        · subst hjk;exact hjun
        · rw [getD_set_ne true hjk] at hu;exact hu
      · rw [Array.setIfInBounds_comm _ _ hji];exact h3.2
section
variable {n st:Nat} {K:List Deferred→Env→World→Prop} {D:List Deferred} {E:Env} {w:World}
def LAD (P:Program) (n:Nat) (ops:Array Oper) (C0 C1:World→Prop) (st:Nat) (K:List Deferred→Env→World→Prop) (fuel:Nat) (listed:Array Bool) (D:List Deferred) (E:Env) (w:World):Prop:=
  ∀ a,Fr D n a E→wpAnyD P ops C0 C1 st (lift n (nrm K)) fuel listed a w
theorem W.drawD {id:Nat} {l:List Oper} {Q:Post} (R R1:Nat→Prop) (st:Nat) (hm:P.follows .mixedOrders=true)
    (h:∀ w1,Bel w w1→LAD P n l.toArray (Gr R w1) (Gr R1 w1) st (Q .normal) l.length (Array.replicate l.length false) D E w1):W P n (.region id l.toArray true) Q D E w:=by
  intro a ha;refine wp_mono (wp_region_any (Q:=lift n (nrm (Q .normal))) hm ?_) ?_
  · have:=(h _ (bel_drew _) a ha).any;simpa using this
  · rintro e a' w' ⟨he,E',hE,rfl,hq⟩;exact ⟨he,E',hE,hq⟩
theorem LAD.take0 {fuel:Nat} {listed:Array Bool} {i d:Nat} {op:Op} {t:TypeId} {p:String} {af:Array Edge} {v:Value}
    (ho:ops[i]? = some ⟨some d,op,t,p,af,none⟩) (hs:Region.noSelect ops=true) (hf:Region.free .any ops listed i=true) (hr:(Region.ready .any ops listed).contains i=true) (hne:Nat.beq st i=false)
    (hx:∀ w,C0 w→X P op t E w v w) (hd:Nat.blt d n=true) (k:LAD P n ops C0 C1 st K fuel (listed.setIfInBounds i true) D (upd E d v) w):LAD P n ops C0 C1 st K (fuel+1) listed D E w:=by
  intro a ha;refine wpAnyD.take0 ho (Region.noSelect_spec hs) ?_ (fun h=>by subst h;simp at hne) fuel listed a w (Region.free_spec ho hf) (by simpa using hr) (.inl ⟨by simp [Region.wanted],fun w hw=>?_⟩) (k _ (ha.put v hd))
  · rintro c a w ⟨_,E,_,h,_⟩;cases h
  · have:=hx w hw;unfold X at this;rw [execOp_bare,ha.eval];exact this
theorem LAD.take1 {fuel:Nat} {listed:Array Bool} {i d:Nat} {op:Op} {t:TypeId} {p:String} {af:Array Edge} {v:Value}
    (ho:ops[i]? = some ⟨some d,op,t,p,af,none⟩) (hs:Region.noSelect ops=true) (hf:Region.free .any ops listed i=true) (hr:(Region.ready .any ops listed).contains i=true) (hne:Nat.beq st i=false)
    (hst:(ops[st]?).map (fun o=>o.after.any fun e=>Region.binds .any e && Nat.beq e.on i)=some true) (hl:listed.getD st true=false)
    (hx:∀ w,C1 w→X P op t E w v w) (hd:Nat.blt d n=true) (k:LAD P n ops C0 C1 st K fuel (listed.setIfInBounds i true) D (upd E d v) w):LAD P n ops C0 C1 st K (fuel+1) listed D E w:=by
  intro a ha;cases hos:ops[st]? with
  | none=>rw [hos] at hst;cases hst
  | some ost=>
    rw [hos] at hst;simp only [Option.map_some,Option.some.injEq] at hst;obtain ⟨e,he,hb⟩:=Array.any_eq_true'.1 hst;simp only [Bool.and_eq_true] at hb;refine wpAnyD.take1 ho (Region.noSelect_spec hs) ?_ hos ⟨e,he,hb.1,Nat.eq_of_beq_eq_true hb.2⟩ (fun h=>by subst h;simp at hne) fuel listed a w (fun h=>by rw [unlisted hl] at h;cases h) (Region.free_spec ho hf) (by simpa using hr)
      (.inl ⟨by simp [Region.wanted],fun w hw=>?_⟩) (k _ (ha.put v hd))
    · rintro c a w ⟨_,E,_,h,_⟩;cases h
    · have:=hx w hw;unfold X at this;rw [execOp_bare,ha.eval];exact this
theorem LAD.done {listed:Array Bool} (hr:Region.ready .any ops listed=[]) (hl:listed.getD st false=true) (hC:C0 w) (h:K D E w):LAD P n ops C0 C1 st K 0 listed D E w:=
  fun _ ha=>⟨hC,fun h0=>(by rw [hl] at h0;cases h0),hr,lift_mk (by simp) ha ⟨rfl,h⟩⟩
def LADs (P:Program) (n:Nat) (ops:Array Oper) (C0 C1:World→Prop) (st:Nat) (K:List Deferred→Env→World→Prop) (fuel:Nat) (listed:Array Bool) (D:List Deferred) (E:Env) (w:World):List Nat→Prop
  | []=>True
  | i :: r=>(∃ o,ops[i]? = some o∧L P n ops (thn (LAD P n ops C0 C1 st K fuel (listed.setIfInBounds i true)) (nrm K)) [o] D E w)∧LADs P n ops C0 C1 st K fuel listed D E w r
theorem LAD.step {fuel:Nat} {listed:Array Bool} {rs:List Nat} (hC0:C0 w) (hC1:listed.getD st false=false→C1 w) (hr:Region.ready .any ops listed=rs) (hne:rs≠[])
    (h:LADs P n ops C0 C1 st K fuel listed D E w rs):LAD P n ops C0 C1 st K (fuel+1) listed D E w:=by
  intro a ha;refine ⟨hC0,hC1,fun h0=>absurd (hr.symm.trans h0) hne,fun j hj=>?_⟩;rw [hr] at hj;have key:∀ rs:List Nat,LADs P n ops C0 C1 st K fuel listed D E w rs→j∈rs→∃ o,ops[j]? = some o∧L P n ops (thn (LAD P n ops C0 C1 st K fuel (listed.setIfInBounds j true)) (nrm K)) [o] D E w:=by
    intro rs;induction rs with
    | nil=>intro _ hi;cases hi
    | cons k r ih=>
      intro hL hi;rcases List.mem_cons.1 hi with rfl | hi
      · exact hL.1
      · exact ih hL.2 hi
  obtain ⟨o,ho,hLo⟩:=key rs h hj;have h1:=hLo a ha;have hl:∀ e a w,lift n (thn (LAD P n ops C0 C1 st K fuel (listed.setIfInBounds j true)) (nrm K)) e a w→Exit.then (wpAnyD P ops C0 C1 st (lift n (nrm K)) fuel (listed.setIfInBounds j true)) (lift n (nrm K)) e a w:=by
    intro e a w ⟨h1,E',h2,h3⟩;cases e <;> simp only [thn,Exit.then] at h3 ⊢;case normal=>exact h3 a h2
    case outgrown=>exact absurd rfl h1
    all_goals exact ⟨by simp,E',h2,h3⟩
  unfold wpOp;rw [ho];simp only;unfold wpList at h1;split
  · rename_i hw
    rw [if_pos hw] at h1;rcases h1 with h1 | ⟨_,a',w',h1⟩
    · refine .inl ?_;unfold Oper.wp at h1 ⊢;generalize (execOp a.eval o).run P w=res at h1 ⊢;cases res with
      | ok x w'=>
        cases x <;> simp only [Oper.upon,wpList] at h1 ⊢ <;> try exact hl _ _ _ h1
        · refine h1.mono fun e w'' h=>?_
          cases e with
          | returned v=>exact hl _ _ _ h
          | panicked c=>exact hl _ _ _ h
          | outgrown=>obtain ⟨a',w',h⟩:=h;exact absurd rfl h.1
        · exact h1.mono fun v w'' h=>hl _ _ _ h
      | halt x w'=>cases x <;> simp only [Oper.upon] at h1 ⊢ <;> try exact hl _ _ _ h1
    · exact absurd rfl h1.1
  · rename_i hw;rw [if_neg hw] at h1;exact hl _ _ _ h1
theorem LAD.step' {fuel:Nat} {listed:Array Bool} {rs:List Nat} (hC0:C0 w) (hl:listed.getD st false=true) (hr:Region.ready .any ops listed=rs) (hne:rs≠[])
    (h:LADs P n ops C0 C1 st K fuel listed D E w rs):LAD P n ops C0 C1 st K (fuel+1) listed D E w:=LAD.step hC0 (fun h0=>by rw [hl] at h0;cases h0) hr hne h
end
theorem Gr.keepRowR {R:Nat→Prop} {a b:World} (h:Gr R a b) {bl o k:Nat} {vs:List Value} (hn:¬ R bl) (hl:vs.length=k) (hc:∀ j,j<k→a.cell? ⟨bl,o+j,none⟩=vs[j]?):∀ j,j<k→b.cell? ⟨bl,o+j,none⟩=vs[j]? := fun j hj=>by
  have hv:=List.getElem?_eq_getElem (l:=vs) (i:=j) om_;rw [hv];exact h.cell (by rw [hc j hj,hv]) hn
theorem Gr.keepR {R:Nat→Prop} {a b:World} (h:Gr R a b) {p:Addr} {v:Value} (hn:¬ R p.block) (hv:a.cell? p=some v):b.cell? p=some v:=h.cell hv hn
theorem Gr.into {R:Nat→Prop} {a b c:World} {k:Nat} (h:Gr R a b) (g:Gr (· = k) b c) (hk:R k):Gr R a c:=
  h.trans (g.mono fun j _ e=>by have e:j=k:=e;rw [e];exact hk)
theorem Gr.intoR {R S:Nat→Prop} {a b c:World} (h:Gr R a b) (g:Gr S b c) (hk:∀ k,S k→R k):Gr R a c:=h.trans (g.mono fun j _ e=>hk j e)
end Go.Gx
