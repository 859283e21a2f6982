/- One more element put into a slice of types; slices of one element. Conditions: none. -/
import Derived.Test.YtjhcicmlpnkgeaaGreatMSeq
namespace Go.Gx
theorem flat_take {rows:List (List Value)} (h:∀ i,i<rows.length→(rows.getD i []).length=5):∀ k,k≤rows.length→rows.flatten.take (k * 5)=(rows.take k).flatten∧rows.flatten.drop (k * 5)=(rows.drop k).flatten:=by
  induction rows with
  | nil=>intro k hk;simp
  | cons r rows ih=>
    intro k hk;have hr:r.length=5:=by simpa using h 0 (by simp)
    cases k with
    | zero=>simp
    | succ k=>
      have:=ih (fun i hi=>by simpa using h (i+1) (by simpa using hi)) k (by simpa using hk);have e1:(k+1) * 5=r.length+k * 5:=by omega
      simp only [List.flatten_cons,List.take_succ_cons,List.drop_succ_cons];rw [e1,List.take_length_add_append,List.drop_length_add_append,this.1,this.2];exact ⟨rfl,rfl⟩
theorem getD_ins {α : Type} {l:List α} {x d:α} {k i:Nat} (hk:k≤l.length):(l.take k++x :: l.drop k).getD i d=if i<k then l.getD i d else if i=k then x else l.getD (i - 1) d:=by
  have e:(l.take k).length=k:=by simp;omega
  simp only [List.getD_eq_getElem?_getD];split
  · next h=>rw [List.getElem?_append_left om_];simp [h]
  · next h=>
    rw [List.getElem?_append_right om_,e];split
    · next h'=>subst h';simp
    · next h'=>
      obtain ⟨j,hj⟩:∃ j,i - k=j+1:=⟨i - k - 1,by omega⟩;rw [hj,List.getElem?_cons_succ,List.getElem?_drop,show k+j=i - 1 by omega]
theorem ShsOwn.ins {A A':Nat→Prop} {w w':World} {base k:Nat} {e:TypeId} {v':Value} {l:List Sh} {rows:List (List Value)} {cs:List Value} {t:Sh} (h1:rows.length=l.length) (h3:∀ i,i<l.length→(rows.getD i []).length=5) (h4:∀ i,i<l.length→ShC A w (rows.getD i []) (l.getD i default))
    (hk:k≤l.length) (ht:ShC A w cs t) (ho:Own w' base e 5 v' (l.length+1) (rows.flatten.take (k * 5)++cs++rows.flatten.drop (k * 5))) (g:Bel w w') (hA:∀ j,A' j→A j):ShsOwn A' w' base e v' (l.take k++t :: l.drop k):=by
  have hc:∀ {cs s},ShC A w cs s→ShC A' w' cs s:=fun h=>(h.carry g).mono fun j _ hj=>hA j hj
  obtain ⟨f1,f2⟩:=flat_take (rows:=rows) (fun i hi=>h3 i om_) k om_;refine ⟨rows.take k++cs :: rows.drop k,by simp;omega,?_,fun i hi=>?_,fun i hi=>?_⟩
  · have e1:(rows.take k++cs :: rows.drop k).flatten=rows.flatten.take (k * 5)++cs++rows.flatten.drop (k * 5):=by rw [f1,f2];simp
    have e2:(l.take k++t :: l.drop k).length=l.length+1:=by simp;omega
    rw [e1,e2];exact ho
  · have hi:i<l.length+1:=by simp at hi;omega
    rw [getD_ins om_];split
    · exact h3 i om_
    · split
      · exact ht.len
      · exact h3 (i - 1) om_
  · have hi:i<l.length+1:=by simp at hi;omega
    rw [getD_ins om_,getD_ins hk];split
    · exact hc (h4 i om_)
    · split
      · exact hc ht
      · exact hc (h4 (i - 1) om_)
theorem rows_one {A:Nat→Prop} {w:World} {l:List Sh} {rows:List (List Value)} (h1:rows.length=l.length) (h4:∀ i,i<l.length→ShC A w (rows.getD i []) (l.getD i default)):∀ u∈rows.flatten,u.oneCell'=true:=by
  intro u hu;obtain ⟨r,hr,hur⟩:=List.mem_flatten.1 hu;obtain ⟨i,hi,rfl⟩:=List.getElem_of_mem hr;have:=(h4 i om_).one;rw [List.getD_eq_getElem?_getD,List.getElem?_eq_getElem hi] at this;exact this u hur
end Go.Gx
