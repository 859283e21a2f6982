/- Whether two types go together: the program's walk, by its rules. Conditions: none. -/
import Derived.Test.YtjhcicmlpnkgeaaGreatMSort3
import Derived.Test.YtjhcicmlpnkgeaaGreatMSort1
namespace Go.Gx
open Go.Proofs
def lacksS (L:Bool) (s:Sh) (first:Bool):Bool:=L && (first == decide (s.kind=6))
def recF (L:Bool) (F:Sh→Sh→Bool) (a b:Sh) (i:Nat):Bool:=if idxS (a.names.getD i []) b.names<b.names.length then F (a.parts.getD i default) (b.parts.getD (idxS (a.names.getD i []) b.names) default) else lacksS L a true
def funF (F:Sh→Sh→Bool) (a b:Sh) (i:Nat):Bool:=if a.kind=8∧i+1<a.parts.length then F (b.parts.getD i default) (a.parts.getD i default) else F (a.parts.getD i default) (b.parts.getD i default)
def restF (a b:Sh):Bool:=!(List.range b.names.length).any fun i=>!decide (idxS (b.names.getD i []) a.names<a.names.length)
theorem all_succ {q:Nat→Bool} {k:Nat}:(List.range (k+1)).all q=((List.range k).all q && q k):=by
  rw [List.range_succ,List.all_append];simp
theorem all_missR {q:Nat→Bool} {k n:Nat} (h:k<n) (hk:q k=false):(List.range n).all q=false:=by
  rw [List.all_eq_false];exact ⟨k,List.mem_range.2 h,by rw [hk];simp⟩
section
variable {P:Program} {E:Env} {w:World}
end
theorem rec_len {s:Sh} (h:fitsS s=true) (hk:s.kind=6∨s.kind=7):s.names.length=s.parts.length:=by
  rw [fits_rec hk] at h;simp only [Bool.and_eq_true,namesOk,decide_eq_true_eq] at h;omega
theorem allB_fit {s:Sh} (h:s.allB fitsS=true):fitsS s=true:=by rw [Sh.allB_eq] at h;simp at h;exact h.1
end Go.Gx
namespace Go.Gx
def keepS (up:Bool) (a b:Sh):Sh:=if up=true then a else b
def otherS (up:Bool) (a b:Sh):Sh:=if up=true then b else a
theorem idxS_nodup:∀ {l:List Str} {i:Nat},l.Nodup→i<l.length→idxS (l.getD i []) l=i
  | [],_,_,h=>absurd h (by simp)
  | y :: l,0,_,_=>by simp [idxS]
  | y :: l,i+1,h,hi=>by
    rw [List.nodup_cons] at h;have hi:i<l.length:=by simpa using hi
    have ih:=idxS_nodup (i:=i) h.2 hi;have hg:(y :: l).getD (i+1) []=l.getD i []:=by simp
    have hne:¬ y=l.getD i []:=fun e=>h.1 (by rw [e,List.getD_eq_getElem?_getD,List.getElem?_eq_getElem hi];exact List.getElem_mem _)
    rw [hg,idxS,if_neg hne,ih]
theorem names_kind {s:Sh} (h:fitsS s=true) (hn:s.names≠[]):s.kind=6∨s.kind=7:=by
  have hl:0<s.names.length:=List.length_pos_iff.2 hn;unfold fitsS at h;split at h
  · simp at h;exact absurd h.1.2 hn
  · split at h
    · cases h
    · split at h
      · next h6=>simpa using h6
      · rw [if_pos om_] at h;cases h
def AvC (M:Nat→Prop) (n1 n0:Nat) (w:World) (v1 v2:Value) (k:Nat):Prop:=(k<n1∧M k)∨(n1≤k∧k<n0)∨some k=v1.ownBlock∨some k=v2.ownBlock∨w.heap.size≤k
theorem avc_step {M:Nat→Prop} {n1 n0:Nat} {w w2:World} {v v' v1 v2:Value} (hs:w.heap.size≤w2.heap.size) (h1:v1.ownBlock=v.ownBlock∨∀ k,some k=v1.ownBlock→w.heap.size≤k) (h2:v2.ownBlock=v'.ownBlock∨∀ k,some k=v2.ownBlock→w.heap.size≤k) {j:Nat} (h:AvC M n1 n0 w2 v1 v2 j):AvC M n1 n0 w v v' j:=by
  rcases h with h | h | h | h | h
  · exact .inl h
  · exact .inr (.inl h)
  · rcases h1 with e | e
    · exact .inr (.inr (.inl (h.trans e)))
    · exact .inr (.inr (.inr (.inr (e j h))))
  · rcases h2 with e | e
    · exact .inr (.inr (.inr (.inl (h.trans e))))
    · exact .inr (.inr (.inr (.inr (e j h))))
  · exact .inr (.inr (.inr (.inr om_)))
theorem avc_mono {M:Nat→Prop} {n1 n0:Nat} {w w2:World} {v1 v2:Value} (hs:w.heap.size≤w2.heap.size) {j:Nat} (h:AvC M n1 n0 w2 v1 v2 j):AvC M n1 n0 w v1 v2 j:=avc_step hs (.inl rfl) (.inl rfl) h
theorem ShsOwn.snocW {A A' R:Nat→Prop} {w w':World} {base:Nat} {e:TypeId} {v':Value} {l:List Sh} {rows:List (List Value)} {cs:List Value} {t:Sh} (h1:rows.length=l.length) (h3:∀ i,i<l.length→(rows.getD i []).length=5) (h4:∀ i,i<l.length→ShC A w (rows.getD i []) (l.getD i default))
    (ht:ShC A' w' cs t) (ho:Own w' base e 5 v' (l.length+1) (rows.flatten++cs)) (g:Gr R w w') (hR:∀ j,R j→A j) (hA:∀ j,A' j→A j):ShsOwn A' w' base e v' (l++[t]):=by
  refine ⟨rows++[cs],by simp [h1],?_,fun i hi=>?_,fun i hi=>?_⟩
  · have e1:(rows++[cs]).flatten=rows.flatten++cs:=by simp
    rw [e1,List.length_append];exact ho
  · rw [getD_snoc (by simpa [h1] using hi)];split
    · exact h3 i om_
    · exact ht.len
  · rw [getD_snoc (by simpa [h1] using hi),getD_snoc hi];by_cases hlt:i<l.length
    · rw [if_pos om_,if_pos hlt];exact ((h4 i hlt).carryR g hR).mono fun j _ hj=>hA j hj
    · rw [if_neg om_,if_neg hlt];exact ht
theorem map_range_succ {α : Type} {f:Nat→α} {i:Nat}:(List.range (i+1)).map f=(List.range i).map f++[f i]:=by
  rw [List.range_succ,List.map_append];rfl
end Go.Gx
namespace Go.Gx
def nrA (F:Sh→Sh→Bool) (a b:Sh) (i:Nat):Bool:=if idxS (b.names.getD i []) a.names<a.names.length then F (a.parts.getD (idxS (b.names.getD i []) a.names) default) (b.parts.getD i default) else false
def nrV (F:Sh→Sh→Bool) (a b:Sh) (i:Nat):Bool:=if idxS (a.names.getD i []) b.names<b.names.length then F (a.parts.getD i default) (b.parts.getD (idxS (a.names.getD i []) b.names) default) else false
theorem all_iff {q:Nat→Bool} {n:Nat}:(List.range n).all q=true↔∀ i,i<n→q i=true:=by
  rw [List.all_eq_true];simp
theorem restF_iff {a b:Sh}:restF a b=true↔∀ i,i<b.names.length→idxS (b.names.getD i []) a.names<a.names.length:=by
  unfold restF;rw [Bool.not_eq_true',List.any_eq_false];simp
theorem rec_nodup {s:Sh} (h:fitsS s=true) (_hk:s.kind=6∨s.kind=7):s.names.Nodup:=by
  by_cases hn:s.names=[]
  · rw [hn];exact List.nodup_nil
  · exact nodup_iff.1 ((fits_names h).resolve_left hn).2
theorem mem_getD {l:List Str} {i:Nat} (h:i<l.length):l.getD i []∈l:=by rw [List.getD_eq_getElem?_getD,List.getElem?_eq_getElem h];exact List.getElem_mem _
theorem mem_at {l:List Str} {x:Str} (h:x∈l):∃ i,i<l.length∧l.getD i []=x:=⟨idxS x l,idxS_lt.2 h,idxS_get (idxS_lt.2 h)⟩
theorem part_fit {s:Sh} (h:s.allB fitsS=true) {i:Nat} (hi:i<s.parts.length):(s.parts.getD i default).allB fitsS=true:=by
  rw [Sh.allB_eq] at h;simp at h;exact allL_getD h.2 hi
theorem fits8 {s:Sh} (h:fitsS s=true) (hk:s.kind=8):1≤s.parts.length:=by
  unfold fitsS at h;simp [hk] at h;omega
theorem fits5 {s:Sh} (h:fitsS s=true) (hk:s.kind=5):s.parts.length=1:=by
  unfold fitsS at h;simp [hk] at h;omega
theorem fits0 {s:Sh} (h:fitsS s=true) (h6:s.kind≠6) (h7:s.kind≠7) (h8:s.kind≠8) (h5:s.kind≠5):s.parts.length=0:=by
  unfold fitsS at h;simp only [h6,h7,h8,h5,decide_false,Bool.or_self,Bool.false_eq_true,if_false] at h
  repeat' split at h
  all_goals first | (simp only [Bool.and_eq_true,decide_eq_true_eq] at h;omega) | cases h
end Go.Gx
namespace Go.Gx
open Go.Sort
theorem sizeL_perm {l l':List Sh} (h:l.Perm l'):sizeL l=sizeL l':=by
  induction h with
  | nil=>rfl
  | cons x _ ih=>simp only [sizeL,ih]
  | swap x y l=>simp only [sizeL];omega
  | trans _ _ h1 h2=>exact h1.trans h2
theorem deepL_perm {l l':List Sh} (h:l.Perm l'):deepL l=deepL l':=by
  induction h with
  | nil=>rfl
  | cons x _ ih=>simp only [deepL,ih]
  | swap x y l=>simp only [deepL];omega
  | trans _ _ h1 h2=>exact h1.trans h2
theorem allL_iff {p:Sh→Bool}:∀ {l:List Sh},allL p l=true↔∀ x∈l,x.allB p=true
  | []=>by simp [allL]
  | x :: l=>by rw [allL,Bool.and_eq_true,allL_iff (l:=l)];simp
theorem namesOk_perm {l l':List Str} (h:l.Perm l') (n:Int):namesOk l n=namesOk l' n:=by
  unfold namesOk;have h1:l.all nameS=l'.all nameS:=by
    rw [Bool.eq_iff_iff,List.all_eq_true,List.all_eq_true];exact ⟨fun g x hx=>g x (h.mem_iff.2 hx),fun g x hx=>g x (h.mem_iff.1 hx)⟩
  have h2:nodup l=nodup l':=by
    rw [Bool.eq_iff_iff,nodup_iff,nodup_iff];exact h.nodup_iff
  rw [h1,h2,h.length_eq]
def fitsF (k:Int) (o n:Str) (b:Bool) (x y:Int):Bool:=
  if (decide (k=9) || decide (k=10))=true then upperS n && (nameS o || (o == [] && decide (k=9) && !plainS n)) && decide (x=0) && decide (y=0)
  else if (!(o == []) || !(n == []))=true then false
  else if (decide (k=6) || decide (k=7))=true then b
  else if (0:Int)<x then false
  else if k=8 then decide ((1:Int)≤y)
  else if k=5 then decide (y=1)
  else decide (1≤k) && decide (k≤4) && decide (y=0)
theorem fits_perm {k:Int} {o n:Str} {ns ns':List Str} {ps ps':List Sh} (h:ns.Perm ns') (hl:ps.length=ps'.length):fitsS (.mk k o n ns ps)=fitsS (.mk k o n ns' ps'):=by
  have e:∀ ns ps,fitsS (.mk k o n ns ps)=fitsF k o n (namesOk ns (ps.length:Nat)) (ns.length:Nat) (ps.length:Nat):=fun _ _=>rfl
  rw [e,e,namesOk_perm h,hl,h.length_eq]
theorem pairUp_perm {ns:List Str} {qs:List Sh}:(pairUp ns qs).Perm (ns.zip qs):=by
  have:=foldP_perm (ns.zip qs) [];rw [List.append_nil] at this;exact this
theorem pairUp_sorted {ns:List Str} {qs:List Sh}:(pairUp ns qs).Pairwise LeP:=foldP_sorted _ _ .nil
theorem pairUp_names {ns:List Str} {qs:List Sh} (h:ns.length=qs.length):((pairUp ns qs).map (·.1)).Perm ns:=by
  have:=(pairUp_perm (ns:=ns) (qs:=qs)).map (·.1)
  rwa [List.map_fst_zip om_] at this
theorem pairUp_parts {ns:List Str} {qs:List Sh} (h:ns.length=qs.length):((pairUp ns qs).map (·.2)).Perm qs:=by
  have:=(pairUp_perm (ns:=ns) (qs:=qs)).map (·.2)
  rwa [List.map_snd_zip om_] at this
theorem pairs_one {l l':List (Str × Sh)} (hn:(l.map (·.1)).Nodup) (hp:l.Perm l') (h:l.Pairwise LeP) (h':l'.Pairwise LeP):l=l':=
  List.Perm.eq_of_pairwise (le:=LeP) (fun _ _ ha hb h1 h2=>eq_of_fst hn ha (hp.mem_iff.2 hb) (ltStr_anti h2 h1)) h h' hp
theorem pairUp_of {ns ns':List Str} {qs qs':List Sh} (hp:(ns.zip qs).Perm (ns'.zip qs')) (hl:ns.length=qs.length) (hn:ns.Nodup):pairUp ns qs=pairUp ns' qs':=
  pairs_one ((pairUp_names hl).nodup_iff.2 hn) (pairUp_perm.trans (hp.trans pairUp_perm.symm)) pairUp_sorted pairUp_sorted
theorem zip_unzip (l:List (Str × Sh)):(l.map (·.1)).zip (l.map (·.2))=l:=by
  induction l with
  | nil=>rfl
  | cons x l ih=>simp [ih]
theorem map_len {ns:List Str} {qs:List Sh} (h:ns.length=qs.length):((pairUp ns qs).map (·.2)).length=qs.length:=(pairUp_parts h).length_eq
mutual
theorem Sh.sort_size:∀ s:Sh,s.allB fitsS=true→s.sort.size=s.size
  | .mk k o n ns ps,h=>by
    have hf:=h;rw [Sh.allB,Bool.and_eq_true] at h;have ih:=sortL_size ps h.2;rw [Sh.sort];split
    · rw [Sh.size,Sh.size,ih]
    · next hne=>
      have hl:=((fits_names h.1).resolve_left hne).1;have hl:ns.length=(sortL ps).length:=by rw [sortL_eq];simpa [Sh.names,Sh.parts] using hl
      rw [Sh.size,Sh.size,sizeL_perm (pairUp_parts hl),ih]
theorem sortL_size:∀ l:List Sh,allL fitsS l=true→sizeL (sortL l)=sizeL l
  | [],_=>rfl
  | x :: xs,h=>by
    rw [allL,Bool.and_eq_true] at h;simp only [sortL,sizeL];rw [Sh.sort_size x h.1,sortL_size xs h.2]
end
mutual
theorem Sh.sort_deep:∀ s:Sh,s.allB fitsS=true→s.sort.deep=s.deep
  | .mk k o n ns ps,h=>by
    rw [Sh.allB,Bool.and_eq_true] at h;have ih:=sortL_deep ps h.2;rw [Sh.sort];split
    · rw [Sh.deep,Sh.deep,ih]
    · next hne=>
      have hl:=((fits_names h.1).resolve_left hne).1;have hl:ns.length=(sortL ps).length:=by rw [sortL_eq];simpa [Sh.names,Sh.parts] using hl
      rw [Sh.deep,Sh.deep,deepL_perm (pairUp_parts hl),ih]
theorem sortL_deep:∀ l:List Sh,allL fitsS l=true→deepL (sortL l)=deepL l
  | [],_=>rfl
  | x :: xs,h=>by
    rw [allL,Bool.and_eq_true] at h;simp only [sortL,deepL];rw [Sh.sort_deep x h.1,sortL_deep xs h.2]
end
mutual
theorem Sh.sort_fits:∀ s:Sh,s.allB fitsS=true→s.sort.allB fitsS=true
  | .mk k o n ns ps,h=>by
    rw [Sh.allB,Bool.and_eq_true] at h;have ih:=sortL_fits ps h.2;have hsl:(sortL ps).length=ps.length:=by rw [sortL_eq];simp
    rw [Sh.sort];split
    · next hne=>
      subst hne;rw [Sh.allB,Bool.and_eq_true];exact ⟨by rw [fits_perm (.refl []) hsl];exact h.1,ih⟩
    · next hne=>
      have hl:=((fits_names h.1).resolve_left hne).1;have hl:ns.length=(sortL ps).length:=by rw [hsl];simpa [Sh.names,Sh.parts] using hl
      rw [Sh.allB,Bool.and_eq_true];refine ⟨?_,?_⟩
      · rw [fits_perm (pairUp_names hl) ((map_len hl).trans hsl)];exact h.1
      · rw [allL_iff] at ih ⊢;exact fun x hx=>ih x ((pairUp_parts hl).mem_iff.1 hx)
theorem sortL_fits:∀ l:List Sh,allL fitsS l=true→allL fitsS (sortL l)=true
  | [],_=>rfl
  | x :: xs,h=>by
    rw [allL,Bool.and_eq_true] at h;simp only [sortL,allL,Bool.and_eq_true];exact ⟨Sh.sort_fits x h.1,sortL_fits xs h.2⟩
end
end Go.Gx
namespace Go.Gx
def relB (any L:Bool) (F:Sh→Sh→Bool) (a b:Sh):Bool:=
  if any=true∧(a.kind=4∨b.kind=4) then true
  else if a.kind≠b.kind∨a.of≠b.of∨a.name≠b.name then false
  else if a.kind=6∨a.kind=7 then (List.range a.names.length).all (recF L F a b) && (lacksS L b false || restF a b)
  else if a.parts.length≠b.parts.length then false
  else (List.range a.parts.length).all (funF F a b)
def relN (any L:Bool):Nat→Sh→Sh→Bool
  | 0=>fun _ _=>false
  | N+1=>relB any L (relN any L N)
theorem all_congr' {n:Nat} {p q:Nat→Bool} (h:∀ i,i<n→p i=q i):(List.range n).all p=(List.range n).all q:=by
  rw [Bool.eq_iff_iff,all_iff,all_iff];exact ⟨fun hp i hi=>by rw [← h i hi];exact hp i hi,fun hq i hi=>by rw [h i hi];exact hq i hi⟩
theorem relB_congr {any L:Bool} {F G:Sh→Sh→Bool} {a b:Sh} (fa:fitsS a=true) (fb:fitsS b=true)
    (h:∀ i j,i<a.parts.length→j<b.parts.length→F (a.parts.getD i default) (b.parts.getD j default)=G (a.parts.getD i default) (b.parts.getD j default)∧F (b.parts.getD j default) (a.parts.getD i default)=G (b.parts.getD j default) (a.parts.getD i default)):
    relB any L F a b=relB any L G a b:=by
  unfold relB;split
  · rfl
  · split
    · rfl
    · next h2=>
      split
      · next h6=>
        have hk:a.kind=b.kind:=Decidable.byContradiction fun e=>h2 (.inl e)
        have la:=rec_len fa h6;have lb:=rec_len fb (by rw [← hk];exact h6);congr 1;refine all_congr' fun i hi=>?_
        unfold recF;split
        · next hx=>exact (h i _ om_ om_).1
        · rfl
      · split
        · rfl
        · next hl=>
          have hl:a.parts.length=b.parts.length:=Decidable.byContradiction hl;refine all_congr' fun i hi=>?_
          unfold funF;split
          · exact (h i i hi om_).2
          · exact (h i i hi om_).1
theorem relN_fuel {any L:Bool}:∀ (N M:Nat) (a b:Sh),SizeOf.sizeOf a+SizeOf.sizeOf b<N→SizeOf.sizeOf a+SizeOf.sizeOf b<M→a.allB fitsS=true→b.allB fitsS=true→relN any L N a b=relN any L M a b
  | 0,_,_,_,h,_,_,_=>by omega
  | _+1,0,_,_,_,h,_,_=>by omega
  | N+1,M+1,a,b,hN,hM,fa,fb=>by
    show relB any L (relN any L N) a b=relB any L (relN any L M) a b;refine relB_congr (allB_fit fa) (allB_fit fb) fun i j hi hj=>?_
    have s1:=Sh.part_lt hi;have s2:=Sh.part_lt hj;exact ⟨relN_fuel N M _ _ om_ om_ (part_fit fa hi) (part_fit fb hj),relN_fuel N M _ _ om_ om_ (part_fit fb hj) (part_fit fa hi)⟩
def Rel (any L:Bool) (a b:Sh):Prop:=relN any L (SizeOf.sizeOf a+SizeOf.sizeOf b+1) a b=true
noncomputable instance (any L:Bool) (a b:Sh):Decidable (Rel any L a b):=inferInstanceAs (Decidable (_=true))
theorem rel_fuel {any L:Bool} {N:Nat} {a b:Sh} (h:SizeOf.sizeOf a+SizeOf.sizeOf b<N) (fa:a.allB fitsS=true) (fb:b.allB fitsS=true):relN any L N a b=true↔Rel any L a b:=by
  unfold Rel;rw [relN_fuel N _ a b h (Nat.lt_succ_self _) fa fb]
theorem partS_some {s:Sh} {x:Str} {p:Sh}:partS s x=some p↔idxS x s.names<s.names.length∧s.parts.getD (idxS x s.names) default=p:=by
  unfold partS;split
  · next h=>simp [h]
  · next h=>simp [h]
theorem partS_mem {s:Sh} {x:Str}:x∈s.names↔∃ p,partS s x=some p:=by
  rw [← idxS_lt];exact ⟨fun h=>⟨_,partS_some.2 ⟨h,rfl⟩⟩,fun ⟨_,h⟩=>(partS_some.1 h).1⟩
theorem partS_at {s:Sh} {i:Nat} (hd:s.names.Nodup) (hi:i<s.names.length):partS s (s.names.getD i [])=some (s.parts.getD i default):=by
  rw [partS_some,idxS_nodup hd hi];exact ⟨hi,rfl⟩
theorem partS_idx {s:Sh} {x:Str} {p:Sh} (fs:fitsS s=true) (h:partS s x=some p):idxS x s.names<s.parts.length∧s.parts.getD (idxS x s.names) default=p:=by
  obtain ⟨h1,h2⟩:=partS_some.1 h;rcases fits_names fs with e | e
  · rw [e] at h1;simp at h1
  · exact ⟨by omega,h2⟩
theorem partS_fit {s:Sh} {x:Str} {p:Sh} (fs:s.allB fitsS=true) (h:partS s x=some p):p.allB fitsS=true:=by
  obtain ⟨h1,rfl⟩:=partS_idx (allB_fit fs) h;exact part_fit fs h1
theorem partS_lt {s:Sh} {x:Str} {p:Sh} (fs:s.allB fitsS=true) (h:partS s x=some p):SizeOf.sizeOf p<SizeOf.sizeOf s:=by
  obtain ⟨h1,rfl⟩:=partS_idx (allB_fit fs) h;exact Sh.part_lt h1
structure RelC (any L:Bool) (a b:Sh):Prop where
  kind:a.kind=b.kind
  of:a.of=b.of
  name:a.name=b.name
  both:(a.kind=6∨a.kind=7)→∀ x p q,partS a x=some p→partS b x=some q→Rel any L p q
  left:(a.kind=6∨a.kind=7)→¬ (L=true∧a.kind=6)→∀ x,x∈a.names→x∈b.names
  right:(a.kind=6∨a.kind=7)→¬ (L=true∧a.kind=7)→∀ x,x∈b.names→x∈a.names
  len:¬ (a.kind=6∨a.kind=7)→a.parts.length=b.parts.length
  part:¬ (a.kind=6∨a.kind=7)→∀ i,i<a.parts.length→¬ (a.kind=8∧i+1<a.parts.length)→Rel any L (a.parts.getD i default) (b.parts.getD i default)
  arg:a.kind=8→∀ i,i+1<a.parts.length→Rel any L (b.parts.getD i default) (a.parts.getD i default)
theorem lacks1 {L:Bool} {s:Sh}:lacksS L s true=true↔L=true∧s.kind=6:=by
  unfold lacksS;simp
theorem lacks2 {L:Bool} {s:Sh}:lacksS L s false=true↔L=true∧s.kind≠6:=by
  unfold lacksS;simp
theorem rel_iff {any L:Bool} {a b:Sh} (fa:a.allB fitsS=true) (fb:b.allB fitsS=true):Rel any L a b↔(any=true∧(a.kind=4∨b.kind=4))∨RelC any L a b:=by
  show relB any L (relN any L (SizeOf.sizeOf a+SizeOf.sizeOf b)) a b=true↔_;have hF:∀ i j,i<a.parts.length→j<b.parts.length→(relN any L (SizeOf.sizeOf a+SizeOf.sizeOf b) (a.parts.getD i default) (b.parts.getD j default)=true↔Rel any L (a.parts.getD i default) (b.parts.getD j default)):=fun i j hi hj=>by
    have s1:=Sh.part_lt hi;have s2:=Sh.part_lt hj;exact rel_fuel om_ (part_fit fa hi) (part_fit fb hj)
  have hG:∀ i j,i<a.parts.length→j<b.parts.length→(relN any L (SizeOf.sizeOf a+SizeOf.sizeOf b) (b.parts.getD j default) (a.parts.getD i default)=true↔Rel any L (b.parts.getD j default) (a.parts.getD i default)):=fun i j hi hj=>by
    have s1:=Sh.part_lt hi;have s2:=Sh.part_lt hj;exact rel_fuel om_ (part_fit fb hj) (part_fit fa hi)
  unfold relB;split
  · next h=>exact ⟨fun _=>.inl h,fun _=>rfl⟩
  · next h1=>
    split
    · next h2=>
      constructor
      · intro h;cases h
      · rintro (h | h)
        · exact absurd h h1
        · rcases h2 with e | e | e
          · exact absurd h.kind e
          · exact absurd h.of e
          · exact absurd h.name e
    · next h2=>
      have e1:a.kind=b.kind:=Decidable.byContradiction fun e=>h2 (.inl e)
      have e2:a.of=b.of:=Decidable.byContradiction fun e=>h2 (.inr (.inl e))
      have e3:a.name=b.name:=Decidable.byContradiction fun e=>h2 (.inr (.inr e))
      split
      · next h6=>
        have h6b:b.kind=6∨b.kind=7:=by rw [← e1];exact h6
        have la:=rec_len (allB_fit fa) h6;have lb:=rec_len (allB_fit fb) h6b;have na:=rec_nodup (allB_fit fa) h6;rw [Bool.and_eq_true,all_iff,Bool.or_eq_true,restF_iff];constructor
        · rintro ⟨hr,ht⟩;refine .inr ⟨e1,e2,e3,fun _ x p q hp hq=>?_,fun _ hL x hx=>?_,fun _ hL x hx=>?_,fun hn=>absurd h6 hn,fun hn=>absurd h6 hn,fun h8=>absurd h6 om_⟩
          · obtain ⟨hp1,rfl⟩:=partS_some.1 hp;obtain ⟨hq1,rfl⟩:=partS_some.1 hq;have:=hr _ hp1;unfold recF at this;rw [idxS_get hp1,if_pos hq1] at this;exact (hF _ _ om_ om_).1 this
          · have hx':=idxS_lt.2 hx;have:=hr _ hx';unfold recF at this;rw [idxS_get hx'] at this;split at this
            · next h=>exact idxS_lt.1 h
            · exact absurd (lacks1.1 this) hL
          · rcases ht with ht | ht
            · have:=lacks2.1 ht;exact absurd ⟨this.1,by omega⟩ hL
            · obtain ⟨j,hj,rfl⟩:=mem_at hx;exact idxS_lt.1 (ht j hj)
        · rintro (h | h)
          · exact absurd h h1
          · refine ⟨fun i hi=>?_,?_⟩
            · unfold recF;split
              · next hx=>exact (hF i _ om_ om_).2 (h.both h6 _ _ _ (partS_at na hi) (partS_some.2 ⟨hx,rfl⟩))
              · next hx=>
                by_cases hL:L=true∧a.kind=6
                · exact lacks1.2 hL
                · exact absurd (idxS_lt.2 (h.left h6 hL _ (mem_getD hi))) hx
            · by_cases hL:L=true∧a.kind=7
              · exact .inl (lacks2.2 ⟨hL.1,by omega⟩)
              · exact .inr fun j hj=>idxS_lt.2 (h.right h6 hL _ (mem_getD hj))
      · next h6=>
        split
        · next hl=>
          constructor
          · intro h;cases h
          · rintro (h | h)
            · exact absurd h h1
            · exact absurd (h.len h6) hl
        · next hl=>
          have hl:a.parts.length=b.parts.length:=Decidable.byContradiction hl;rw [all_iff];constructor
          · intro hq;refine .inr ⟨e1,e2,e3,fun hn=>absurd hn h6,fun hn=>absurd hn h6,fun hn=>absurd hn h6,fun _=>hl,fun _ i hi hn=>?_,fun h8 i hi=>?_⟩
            · have:=hq i hi;unfold funF at this;rw [if_neg hn] at this;exact (hF i i hi om_).1 this
            · have:=hq i om_;unfold funF at this;rw [if_pos ⟨h8,hi⟩] at this;exact (hG i i om_ om_).1 this
          · rintro (h | h)
            · exact absurd h h1
            · intro i hi;unfold funF;split
              · next h8=>exact (hG i i hi om_).2 (h.arg h8.1 i h8.2)
              · next h8=>exact (hF i i hi om_).2 (h.part h6 i hi h8)
theorem rel_reflN {any L:Bool}:∀ (N:Nat) (a:Sh),SizeOf.sizeOf a<N→a.allB fitsS=true→Rel any L a a
  | 0,_,h,_=>by omega
  | N+1,a,hN,fa=>by
    refine (rel_iff fa fa).2 (.inr ⟨rfl,rfl,rfl,fun _ x p q hp hq=>?_,fun _ _ x hx=>hx,fun _ _ x hx=>hx,fun _=>rfl,fun _ i hi _=>?_,fun _ i hi=>?_⟩)
    · rw [hp] at hq;cases hq;have:=partS_lt fa hp;exact rel_reflN N p om_ (partS_fit fa hp)
    · have:=Sh.part_lt hi;exact rel_reflN N _ om_ (part_fit fa hi)
    · have:=Sh.part_lt (s:=a) (i:=i) om_;exact rel_reflN N _ om_ (part_fit fa om_)
theorem rel_refl {any L:Bool} {a:Sh} (fa:a.allB fitsS=true):Rel any L a a:=rel_reflN _ a (Nat.lt_succ_self _) fa
theorem rel_symN {any:Bool}:∀ (N:Nat) (a b:Sh),SizeOf.sizeOf a+SizeOf.sizeOf b<N→a.allB fitsS=true→b.allB fitsS=true→Rel any false a b→Rel any false b a
  | 0,_,_,h,_,_,_=>by omega
  | N+1,a,b,hN,fa,fb,h=>by
    rcases (rel_iff fa fb).1 h with h | h
    · exact (rel_iff fb fa).2 (.inl ⟨h.1,h.2.symm⟩)
    · refine (rel_iff fb fa).2 (.inr ⟨h.kind.symm,h.of.symm,h.name.symm,fun hk x p q hp hq=>?_,fun hk _ x hx=>h.right (by rw [h.kind];exact hk) (by simp) x hx,fun hk _ x hx=>h.left (by rw [h.kind];exact hk) (by simp) x hx,fun hk=>(h.len (by rw [h.kind];exact hk)).symm,fun hk i hi hn=>?_,fun h8 i hi=>?_⟩)
      · have:=partS_lt fb hp;have:=partS_lt fa hq;exact rel_symN N q p om_ (partS_fit fa hq) (partS_fit fb hp) (h.both (by rw [h.kind];exact hk) x q p hq hp)
      · have hl:=h.len (by rw [h.kind];exact hk);have:=Sh.part_lt hi;have:=Sh.part_lt (s:=a) (i:=i) om_;exact rel_symN N _ _ om_ (part_fit fa om_) (part_fit fb hi) (h.part (by rw [h.kind];exact hk) i om_ (by rw [h.kind,hl];exact hn))
      · have hl:=h.len (by rw [h.kind];omega);have:=Sh.part_lt (s:=b) (i:=i) om_;have:=Sh.part_lt (s:=a) (i:=i) om_;exact rel_symN N _ _ om_ (part_fit fb om_) (part_fit fa om_) (h.arg (by rw [h.kind];exact h8) i om_)
theorem rel_sym {any:Bool} {a b:Sh} (fa:a.allB fitsS=true) (fb:b.allB fitsS=true) (h:Rel any false a b):Rel any false b a:=rel_symN _ a b (Nat.lt_succ_self _) fa fb h
theorem rel_transN {any L:Bool}:∀ (N:Nat) (a b c:Sh),SizeOf.sizeOf a+SizeOf.sizeOf b+SizeOf.sizeOf c<N→a.allB fitsS=true→b.allB fitsS=true→c.allB fitsS=true→
    (Rel false L a b→Rel any L b c→Rel any L a c)∧(Rel any L a b→Rel false L b c→Rel any L a c)
  | 0,_,_,_,h,_,_,_=>by omega
  | N+1,a,b,c,hN,fa,fb,fc=>by
    have core:∀ (x1 x2:Bool),(∀ p q r:Sh,SizeOf.sizeOf p+SizeOf.sizeOf q+SizeOf.sizeOf r<N→p.allB fitsS=true→q.allB fitsS=true→r.allB fitsS=true→(Rel x1 L p q→Rel x2 L q r→Rel any L p r)∧(Rel x2 L p q→Rel x1 L q r→Rel any L p r))→
        RelC x1 L a b→RelC x2 L b c→RelC any L a c:=by
      intro x1 x2 ih h1 h2;have hmid:(a.kind=6∨a.kind=7)→∀ x p r,partS a x=some p→partS c x=some r→∃ q,partS b x=some q:=fun hk x p r hp hr=>by
        rcases hk with hk | hk
        · exact partS_mem.1 (h2.right (by rw [← h1.kind];exact .inl hk) (by rw [← h1.kind];omega) x (partS_mem.2 ⟨r,hr⟩))
        · exact partS_mem.1 (h1.left (.inr hk) om_ x (partS_mem.2 ⟨p,hp⟩))
      refine ⟨h1.kind.trans h2.kind,h1.of.trans h2.of,h1.name.trans h2.name,fun hk x p r hp hr=>?_,fun hk hL x hx=>?_,fun hk hL x hx=>?_,fun hk=>?_,fun hk i hi hn=>?_,fun h8 i hi=>?_⟩
      · obtain ⟨q,hq⟩:=hmid hk x p r hp hr;have:=partS_lt fa hp;have:=partS_lt fb hq;have:=partS_lt fc hr;exact (ih p q r om_ (partS_fit fa hp) (partS_fit fb hq) (partS_fit fc hr)).1 (h1.both hk x p q hp hq) (h2.both (by rw [← h1.kind];exact hk) x q r hq hr)
      · exact h2.left (by rw [← h1.kind];exact hk) (by rw [← h1.kind];exact hL) x (h1.left hk hL x hx)
      · exact h1.right hk hL x (h2.right (by rw [← h1.kind];exact hk) (by rw [← h1.kind];exact hL) x hx)
      · exact (h1.len hk).trans (h2.len (by rw [← h1.kind];exact hk))
      · have l1:=h1.len hk;have l2:=h2.len (by rw [← h1.kind];exact hk);have:=Sh.part_lt hi;have:=Sh.part_lt (s:=b) (i:=i) om_;have:=Sh.part_lt (s:=c) (i:=i) om_;exact (ih _ _ _ om_ (part_fit fa hi) (part_fit fb om_) (part_fit fc om_)).1 (h1.part hk i hi hn) (h2.part (by rw [← h1.kind];exact hk) i om_ (by rw [← h1.kind,← l1];exact hn))
      · have l1:=h1.len om_;have l2:=h2.len (by rw [← h1.kind];omega);have:=Sh.part_lt (s:=a) (i:=i) om_;have:=Sh.part_lt (s:=b) (i:=i) om_;have:=Sh.part_lt (s:=c) (i:=i) om_;exact (ih _ _ _ om_ (part_fit fc om_) (part_fit fb om_) (part_fit fa om_)).2 (h2.arg (by rw [← h1.kind];exact h8) i om_) (h1.arg h8 i hi)
    constructor
    · intro h1 h2;have h1:=((rel_iff fa fb).1 h1).resolve_left (by simp);rcases (rel_iff fb fc).1 h2 with h2 | h2
      · exact (rel_iff fa fc).2 (.inl ⟨h2.1,by rw [h1.kind];exact h2.2⟩)
      · exact (rel_iff fa fc).2 (.inr (core false any (fun p q r hs fp fq fr=>rel_transN N p q r hs fp fq fr) h1 h2))
    · intro h1 h2;have h2:=((rel_iff fb fc).1 h2).resolve_left (by simp);rcases (rel_iff fa fb).1 h1 with h1 | h1
      · exact (rel_iff fa fc).2 (.inl ⟨h1.1,by rw [← h2.kind];exact h1.2⟩)
      · exact (rel_iff fa fc).2 (.inr (core any false (fun p q r hs fp fq fr=>(rel_transN N p q r hs fp fq fr).symm) h1 h2))
theorem rel_transL {any L:Bool} {a b c:Sh} (fa:a.allB fitsS=true) (fb:b.allB fitsS=true) (fc:c.allB fitsS=true) (h1:Rel false L a b) (h2:Rel any L b c):Rel any L a c:=(rel_transN _ a b c (Nat.lt_succ_self _) fa fb fc).1 h1 h2
theorem rel_monoN {any any' L L':Bool} (hany:any=true→any'=true) (hL:L=true→L'=true):∀ (N:Nat) (a b:Sh),SizeOf.sizeOf a+SizeOf.sizeOf b<N→a.allB fitsS=true→b.allB fitsS=true→Rel any L a b→Rel any' L' a b
  | 0,_,_,h,_,_,_=>by omega
  | N+1,a,b,hN,fa,fb,h=>by
    rcases (rel_iff fa fb).1 h with h | h
    · exact (rel_iff fa fb).2 (.inl ⟨hany h.1,h.2⟩)
    · refine (rel_iff fa fb).2 (.inr ⟨h.kind,h.of,h.name,fun hk x p q hp hq=>?_,fun hk hn x hx=>h.left hk (fun e=>hn ⟨hL e.1,e.2⟩) x hx,fun hk hn x hx=>h.right hk (fun e=>hn ⟨hL e.1,e.2⟩) x hx,h.len,fun hk i hi hn=>?_,fun h8 i hi=>?_⟩)
      · have:=partS_lt fa hp;have:=partS_lt fb hq;exact rel_monoN hany hL N p q om_ (partS_fit fa hp) (partS_fit fb hq) (h.both hk x p q hp hq)
      · have hl:=h.len hk;have:=Sh.part_lt hi;have:=Sh.part_lt (s:=b) (i:=i) om_;exact rel_monoN hany hL N _ _ om_ (part_fit fa hi) (part_fit fb om_) (h.part hk i hi hn)
      · have hl:=h.len om_;have:=Sh.part_lt (s:=a) (i:=i) om_;have:=Sh.part_lt (s:=b) (i:=i) om_;exact rel_monoN hany hL N _ _ om_ (part_fit fb om_) (part_fit fa om_) (h.arg h8 i hi)
theorem rel_mono {any any' L L':Bool} (hany:any=true→any'=true) (hL:L=true→L'=true) {a b:Sh} (fa:a.allB fitsS=true) (fb:b.allB fitsS=true) (h:Rel any L a b):Rel any' L' a b:=rel_monoN hany hL _ a b (Nat.lt_succ_self _) fa fb h
theorem rel_antiN:∀ (N:Nat) (a b:Sh),SizeOf.sizeOf a+SizeOf.sizeOf b<N→a.allB fitsS=true→b.allB fitsS=true→Rel false true a b→Rel false true b a→Rel false false a b
  | 0,_,_,h,_,_,_,_=>by omega
  | N+1,a,b,hN,fa,fb,h,g=>by
    have h:=((rel_iff fa fb).1 h).resolve_left (by simp);have g:=((rel_iff fb fa).1 g).resolve_left (by simp);refine (rel_iff fa fb).2 (.inr ⟨h.kind,h.of,h.name,fun hk x p q hp hq=>?_,fun hk _ x hx=>?_,fun hk _ x hx=>?_,h.len,fun hk i hi hn=>?_,fun h8 i hi=>?_⟩)
    · have:=partS_lt fa hp;have:=partS_lt fb hq;exact rel_antiN N p q om_ (partS_fit fa hp) (partS_fit fb hq) (h.both hk x p q hp hq) (g.both (by rw [← h.kind];exact hk) x q p hq hp)
    · rcases hk with hk | hk
      · exact g.right (by rw [← h.kind];exact .inl hk) (by rw [← h.kind];omega) x hx
      · exact h.left (.inr hk) om_ x hx
    · rcases hk with hk | hk
      · exact h.right (.inl hk) om_ x hx
      · exact g.left (by rw [← h.kind];exact .inr hk) (by rw [← h.kind];omega) x hx
    · have hl:=h.len hk;have:=Sh.part_lt hi;have:=Sh.part_lt (s:=b) (i:=i) om_;exact rel_antiN N _ _ om_ (part_fit fa hi) (part_fit fb om_) (h.part hk i hi hn) (g.part (by rw [← h.kind];exact hk) i om_ (by rw [← h.kind,← hl];exact hn))
    · have hl:=h.len om_;have:=Sh.part_lt (s:=a) (i:=i) om_;have:=Sh.part_lt (s:=b) (i:=i) om_;exact rel_antiN N _ _ om_ (part_fit fb om_) (part_fit fa om_) (h.arg h8 i hi) (g.arg (by rw [← h.kind];exact h8) i om_)
theorem rel_anti {a b:Sh} (fa:a.allB fitsS=true) (fb:b.allB fitsS=true) (h:Rel false true a b) (g:Rel false true b a):Rel false false a b:=rel_antiN _ a b (Nat.lt_succ_self _) fa fb h g
theorem partS_zip {s:Sh} (hl:s.names.length=s.parts.length) (hd:s.names.Nodup) {x:Str} {p:Sh}:partS s x=some p↔(x,p)∈s.names.zip s.parts:=by
  rw [partS_some];constructor
  · rintro ⟨h,rfl⟩;have h2:idxS x s.names<s.parts.length:=by omega
    have e:=idxS_get h;rw [List.getD_eq_getElem?_getD,List.getElem?_eq_getElem h,Option.getD_some] at e;rw [List.getD_eq_getElem?_getD,List.getElem?_eq_getElem h2,Option.getD_some];refine List.mem_iff_getElem.2 ⟨idxS x s.names,by simp;omega,?_⟩;rw [List.getElem_zip,e]
  · intro h;obtain ⟨i,hi,e⟩:=List.mem_iff_getElem.1 h;have hi':i<s.names.length∧i<s.parts.length:=by simp at hi;omega
    rw [List.getElem_zip,Prod.mk.injEq] at e;have e1:s.names.getD i []=x:=by rw [List.getD_eq_getElem?_getD,List.getElem?_eq_getElem hi'.1,Option.getD_some,e.1]
    have:=idxS_nodup hd hi'.1;rw [e1] at this;rw [this];exact ⟨hi'.1,by rw [List.getD_eq_getElem?_getD,List.getElem?_eq_getElem hi'.2,Option.getD_some,e.2]⟩
theorem sort_kind (s:Sh):s.sort.kind=s.kind:=by rw [Sh.sort_eq];split <;> rfl
theorem sort_of (s:Sh):s.sort.of=s.of:=by rw [Sh.sort_eq];split <;> rfl
theorem sort_name (s:Sh):s.sort.name=s.name:=by rw [Sh.sort_eq];split <;> rfl
theorem partS_sort {s:Sh} (fs:fitsS s=true) (x:Str):partS s.sort x=(partS s x).map Sh.sort:=by
  by_cases hn:s.names=[]
  · have h1:partS s x=none:=by unfold partS;rw [hn];simp
    have h2:s.sort.names=[]:=by rw [Sh.sort_eq,if_pos hn];rfl
    have h3:partS s.sort x=none:=by unfold partS;rw [h2];simp
    rw [h1,h3];rfl
  · obtain ⟨hl,hd⟩:=(fits_names fs).resolve_left hn;have hd:=nodup_iff.1 hd;have hl':s.names.length=(s.parts.map Sh.sort).length:=by simpa using hl
    have e1:s.sort.names=(pairUp s.names (s.parts.map Sh.sort)).map (·.1):=by rw [Sh.sort_eq,if_neg hn];rfl
    have e2:s.sort.parts=(pairUp s.names (s.parts.map Sh.sort)).map (·.2):=by rw [Sh.sort_eq,if_neg hn];rfl
    have hd':s.sort.names.Nodup:=by rw [e1];exact (pairUp_names hl').nodup_iff.2 hd
    have hll:s.sort.names.length=s.sort.parts.length:=by rw [e1,e2];simp
    have key:∀ r,partS s.sort x=some r↔(partS s x).map Sh.sort=some r:=fun r=>by
      rw [partS_zip hll hd',e1,e2,zip_unzip,pairUp_perm.mem_iff,Option.map_eq_some_iff];constructor
      · intro h;obtain ⟨i,hi,e⟩:=List.mem_iff_getElem.1 h;have hi':i<s.names.length∧i<s.parts.length:=by simp at hi;omega
        rw [List.getElem_zip,Prod.mk.injEq,List.getElem_map] at e;refine ⟨s.parts[i]'hi'.2,(partS_zip hl hd).2 (List.mem_iff_getElem.2 ⟨i,by simp;omega,?_⟩),e.2⟩;rw [List.getElem_zip,e.1]
      · rintro ⟨p,hp,rfl⟩;obtain ⟨i,hi,e⟩:=List.mem_iff_getElem.1 ((partS_zip hl hd).1 hp);have hi':i<s.names.length∧i<s.parts.length:=by simp at hi;omega
        rw [List.getElem_zip,Prod.mk.injEq] at e;refine List.mem_iff_getElem.2 ⟨i,by simp;omega,?_⟩;rw [List.getElem_zip,List.getElem_map,e.1,e.2]
    cases h:(partS s x).map Sh.sort with
    | none=>
      cases h2:partS s.sort x with
      | none=>rfl
      | some r=>rw [(key r).1 h2] at h;cases h
    | some r=>exact (key r).2 h
theorem names_sort {s:Sh} (fs:fitsS s=true) {x:Str}:x∈s.sort.names↔x∈s.names:=by
  rw [partS_mem,partS_mem,partS_sort fs];exact ⟨fun ⟨p,h⟩=>by obtain ⟨q,hq,-⟩:=Option.map_eq_some_iff.1 h;exact ⟨q,hq⟩,fun ⟨p,h⟩=>⟨p.sort,by rw [h];rfl⟩⟩
theorem parts_sort {s:Sh} (hn:s.names=[]):s.sort.parts=s.parts.map Sh.sort:=by rw [Sh.sort_eq,if_pos hn];rfl
theorem getD_sort {l:List Sh} {i:Nat} (hi:i<l.length):(l.map Sh.sort).getD i default=(l.getD i default).sort:=by
  simp [List.getD_eq_getElem?_getD,hi]
theorem rel_sortN {any L:Bool}:∀ (N:Nat) (a:Sh),SizeOf.sizeOf a<N→a.allB fitsS=true→Rel any L a a.sort
  | 0,_,h,_=>by omega
  | N+1,a,hN,fa=>by
    have hnn:¬ (a.kind=6∨a.kind=7)→a.names=[]:=fun hk=>Decidable.byContradiction fun e=>hk (names_kind (allB_fit fa) e)
    refine (rel_iff fa (Sh.sort_fits a fa)).2 (.inr ⟨(sort_kind a).symm,(sort_of a).symm,(sort_name a).symm,fun _ x p q hp hq=>?_,fun _ _ x hx=>(names_sort (allB_fit fa)).2 hx,fun _ _ x hx=>(names_sort (allB_fit fa)).1 hx,fun hk=>?_,fun hk i hi _=>?_,fun h8 i hi=>?_⟩)
    · rw [partS_sort (allB_fit fa),hp] at hq;cases hq;have:=partS_lt fa hp;exact rel_sortN N p om_ (partS_fit fa hp)
    · rw [parts_sort (hnn hk)];simp
    · rw [parts_sort (hnn hk),getD_sort hi];have:=Sh.part_lt hi;exact rel_sortN N _ om_ (part_fit fa hi)
    · have hi':i<a.parts.length:=by omega
      rw [parts_sort (hnn om_),getD_sort hi'];have:=Sh.part_lt hi';have hr:=rel_sortN (any:=any) (L:=false) N _ om_ (part_fit fa hi');exact rel_mono id (by simp) (Sh.sort_fits _ (part_fit fa hi')) (part_fit fa hi') (rel_sym (part_fit fa hi') (Sh.sort_fits _ (part_fit fa hi')) hr)
theorem rel_sort {any L:Bool} {a:Sh} (fa:a.allB fitsS=true):Rel any L a a.sort:=rel_sortN _ a (Nat.lt_succ_self _) fa
theorem rel_sort' {any L:Bool} {a:Sh} (fa:a.allB fitsS=true):Rel any L a.sort a:=rel_mono id (by simp) (Sh.sort_fits a fa) fa (rel_sym fa (Sh.sort_fits a fa) (rel_sort (L:=false) fa))
theorem sort_ofN:∀ (N:Nat) (a b:Sh),SizeOf.sizeOf a+SizeOf.sizeOf b<N→a.allB fitsS=true→b.allB fitsS=true→Rel false false a b→a.sort=b.sort
  | 0,_,_,h,_,_,_=>by omega
  | N+1,a,b,hN,fa,fb,h=>by
    have h:=((rel_iff fa fb).1 h).resolve_left (by simp);by_cases hk:a.kind=6∨a.kind=7
    · have hkb:b.kind=6∨b.kind=7:=by rw [← h.kind];exact hk
      have la:=rec_len (allB_fit fa) hk;have lb:=rec_len (allB_fit fb) hkb;have na:=rec_nodup (allB_fit fa) hk;have nb:=rec_nodup (allB_fit fb) hkb;have hmem:∀ x,x∈a.names↔x∈b.names:=fun x=>⟨h.left hk (by simp) x,h.right hk (by simp) x⟩
      by_cases hn:a.names=[]
      · have hnb:b.names=[]:=List.eq_nil_iff_forall_not_mem.2 fun x hx=>by have:=(hmem x).2 hx;rw [hn] at this;cases this
        have pa:a.parts=[]:=List.eq_nil_of_length_eq_zero (by rw [← la,hn];rfl);have pb:b.parts=[]:=List.eq_nil_of_length_eq_zero (by rw [← lb,hnb];rfl);rw [Sh.sort_eq a,Sh.sort_eq b,if_pos hn,if_pos hnb,pa,pb,h.kind,h.of,h.name]
      · have hnb:b.names≠[]:=fun e=>hn (List.eq_nil_iff_forall_not_mem.2 fun x hx=>by have:=(hmem x).1 hx;rw [e] at this;cases this)
        rw [Sh.sort_eq a,Sh.sort_eq b,if_neg hn,if_neg hnb,h.kind,h.of,h.name];have hp:(a.names.zip (a.parts.map Sh.sort)).Perm (b.names.zip (b.parts.map Sh.sort)):=by
          have hz:∀ s:Sh,s.names.length=s.parts.length→s.names.Nodup→(s.names.zip (s.parts.map Sh.sort)).Nodup:=fun s hl hd=>by
            have:((s.names.zip (s.parts.map Sh.sort)).map (·.1)).Nodup:=by rw [List.map_fst_zip (by simp;omega)];exact hd
            exact List.Pairwise.of_map _ (fun _ _ h e=>h (by rw [e])) this
          have hm:∀ s:Sh,s.names.length=s.parts.length→s.names.Nodup→∀ x r,(x,r)∈s.names.zip (s.parts.map Sh.sort)↔∃ p,partS s x=some p∧p.sort=r:=fun s hl hd x r=>by
            constructor
            · intro hx;obtain ⟨i,hi,e⟩:=List.mem_iff_getElem.1 hx;have hi':i<s.names.length∧i<s.parts.length:=by simp at hi;omega
              rw [List.getElem_zip,Prod.mk.injEq,List.getElem_map] at e;refine ⟨s.parts[i]'hi'.2,(partS_zip hl hd).2 (List.mem_iff_getElem.2 ⟨i,by simp;omega,?_⟩),e.2⟩;rw [List.getElem_zip,e.1]
            · rintro ⟨p,hp,rfl⟩;obtain ⟨i,hi,e⟩:=List.mem_iff_getElem.1 ((partS_zip hl hd).1 hp);have hi':i<s.names.length∧i<s.parts.length:=by simp at hi;omega
              rw [List.getElem_zip,Prod.mk.injEq] at e;refine List.mem_iff_getElem.2 ⟨i,by simp;omega,?_⟩;rw [List.getElem_zip,List.getElem_map,e.1,e.2]
          have hone:∀ x p q,partS a x=some p→partS b x=some q→p.sort=q.sort:=fun x p q hp hq=>by
            have:=partS_lt fa hp;have:=partS_lt fb hq;exact sort_ofN N p q om_ (partS_fit fa hp) (partS_fit fb hq) (h.both hk x p q hp hq)
          refine (List.perm_ext_iff_of_nodup (hz a la na) (hz b lb nb)).2 fun ⟨x,r⟩=>?_
          rw [hm a la na,hm b lb nb];constructor
          · rintro ⟨p,hp,rfl⟩;obtain ⟨q,hq⟩:=partS_mem.1 ((hmem x).1 (partS_mem.2 ⟨p,hp⟩));exact ⟨q,hq,(hone x p q hp hq).symm⟩
          · rintro ⟨q,hq,rfl⟩;obtain ⟨p,hp⟩:=partS_mem.1 ((hmem x).2 (partS_mem.2 ⟨q,hq⟩));exact ⟨p,hp,hone x p q hp hq⟩
        rw [pairUp_of hp (by simpa using la) na]
    · have hkb:¬ (b.kind=6∨b.kind=7):=by rw [← h.kind];exact hk
      have hn:a.names=[]:=Decidable.byContradiction fun e=>hk (names_kind (allB_fit fa) e)
      have hnb:b.names=[]:=Decidable.byContradiction fun e=>hkb (names_kind (allB_fit fb) e)
      have hl:=h.len hk;rw [Sh.sort_eq a,Sh.sort_eq b,if_pos hn,if_pos hnb,h.kind,h.of,h.name];congr 1;apply List.ext_getElem
      · simpa using hl
      · intro i h1 h2;have h1:i<a.parts.length:=by simpa using h1
        have h2:i<b.parts.length:=by simpa using h2
        have s1:=Sh.part_lt h1;have s2:=Sh.part_lt h2;rw [List.getElem_map,List.getElem_map];have ea:a.parts[i]=a.parts.getD i default:=by simp [List.getD_eq_getElem?_getD,h1]
        have eb:b.parts[i]=b.parts.getD i default:=by simp [List.getD_eq_getElem?_getD,h2]
        rw [ea,eb];by_cases h8:a.kind=8∧i+1<a.parts.length
        · exact (sort_ofN N _ _ om_ (part_fit fb h2) (part_fit fa h1) (h.arg h8.1 i h8.2)).symm
        · exact sort_ofN N _ _ om_ (part_fit fa h1) (part_fit fb h2) (h.part hk i h1 h8)
theorem same_iff {a b:Sh} (fa:a.allB fitsS=true) (fb:b.allB fitsS=true):Rel false false a b↔a.sort=b.sort:=by
  refine ⟨sort_ofN _ a b (Nat.lt_succ_self _) fa fb,fun h=>?_⟩;have h1:=rel_sort (any:=false) (L:=false) fa;rw [h] at h1;exact rel_transL fa (Sh.sort_fits b fb) fb h1 (rel_sort' fb)
noncomputable def goesR (any L:Bool) (a b:Sh):Bool:=(decide (checkS a=0) && decide (checkS b=0)) && decide (Rel any L a b)
end Go.Gx
namespace Go.Gx
theorem sizeL_sum:∀ l:List Sh,sizeL l=(l.map Sh.size).sum
  | []=>rfl
  | x :: l=>by rw [sizeL,sizeL_sum l];rfl
theorem deepL_leq {n:Nat}:∀ {l:List Sh},deepL l≤n↔∀ x∈l,x.deep≤n
  | []=>by simp [deepL]
  | x :: l=>by
    rw [deepL,List.forall_mem_cons,← deepL_leq (l:=l)];omega
theorem part_deep {s:Sh} {i:Nat} (hi:i<s.parts.length):(s.parts.getD i default).deep<s.deep:=by
  have h:deepL s.parts≤deepL s.parts:=Nat.le_refl _;have:=deepL_leq.1 h (s.parts.getD i default) (by rw [List.getD_eq_getElem?_getD,List.getElem?_eq_getElem hi];exact List.getElem_mem _);have e:s.deep=1+deepL s.parts:=by cases s;rfl
  omega
theorem partS_deep {s:Sh} {x:Str} {p:Sh} (fs:fitsS s=true) (h:partS s x=some p):p.deep<s.deep:=by
  obtain ⟨h1,rfl⟩:=partS_idx fs h;exact part_deep h1
def lkSize:List Str→List Sh→Str→Nat
  | y :: l,p :: ps,x=>if y=x then p.size else lkSize l ps x
  | _,_,_=>0
theorem lkSize_nil {ps:List Sh} {x:Str}:lkSize [] ps x=0:=by cases ps <;> rfl
theorem lkSize_nil' {ns:List Str} {x:Str}:lkSize ns [] x=0:=by cases ns <;> rfl
theorem lkSize_at:∀ {ns:List Str} {ps:List Sh} {x:Str},idxS x ns<ns.length→idxS x ns<ps.length→lkSize ns ps x=(ps.getD (idxS x ns) default).size
  | [],_,_,h,_=>by simp at h
  | _ :: _,[],_,_,h=>by simp at h
  | y :: l,p :: ps,x,h,h'=>by
    rw [lkSize,idxS] at *;split
    · simp
    · next e=>
      rw [if_neg e] at h h';rw [lkSize_at (by simpa using h) (by simpa using h')];simp
theorem lkSize_part {s:Sh} (fs:fitsS s=true) {x:Str} {p:Sh} (h:partS s x=some p):lkSize s.names s.parts x=p.size:=by
  obtain ⟨h1,rfl⟩:=partS_idx fs h;exact lkSize_at (partS_some.1 h).1 h1
theorem zero_sum:∀ {m:List Str},(m.map fun _=>0).sum=0
  | []=>rfl
  | x :: m=>by rw [List.map_cons,List.sum_cons,zero_sum]
theorem one_sum {y:Str} {c:Nat}:∀ {m:List Str},m.Nodup→(m.map fun x=>if y=x then c else 0).sum≤c
  | [],_=>by simp
  | x :: m,h=>by
    rw [List.nodup_cons] at h;rw [List.map_cons,List.sum_cons];by_cases e:y=x
    · have h0:(m.map fun x=>if y=x then c else 0)=m.map fun _=>0:=List.map_congr_left fun z hz=>by
        rw [if_neg];intro e2;exact h.1 (by rw [← e,e2];exact hz)
      rw [h0,if_pos e,zero_sum];omega
    · rw [if_neg e];have:=one_sum (y:=y) (c:=c) h.2;omega
theorem parts_sum {l:List Sh}:((List.range l.length).map fun i=>(l.getD i default).size).sum=sizeL l:=by
  have:l.map Sh.size=(List.range l.length).map fun i=>(l.getD i default).size:=by
    apply List.ext_getElem
    · simp
    · intro i h1 h2;have h1:i<l.length:=by simpa using h1
      simp [List.getD_eq_getElem?_getD,h1]
  rw [sizeL_sum,this]
theorem sum_le {α : Type} {f g:α → Nat}:∀ {m:List α},(∀ x∈m,f x≤g x)→(m.map f).sum≤(m.map g).sum
  | [],_=>by simp
  | x :: m,h=>by
    rw [List.forall_mem_cons] at h;simp only [List.map_cons,List.sum_cons];have:=sum_le h.2;omega
theorem sum_add {α : Type} {f g:α → Nat}:∀ {m:List α},(m.map fun x=>f x+g x).sum=(m.map f).sum+(m.map g).sum
  | []=>by simp
  | x :: m=>by simp only [List.map_cons,List.sum_cons,sum_add (m:=m)];omega
theorem lk_sum:∀ {ns:List Str} {ps:List Sh} {m:List Str},m.Nodup→(m.map (lkSize ns ps)).sum≤sizeL ps
  | [],ps,m,_=>by
    have:(m.map (lkSize [] ps))=m.map fun _=>0:=List.map_congr_left fun _ _=>lkSize_nil
    rw [this,zero_sum];omega
  | y :: l,[],m,_=>by
    have:(m.map (lkSize (y :: l) []))=m.map fun _=>0:=List.map_congr_left fun _ _=>lkSize_nil'
    rw [this,zero_sum];omega
  | y :: l,p :: ps,m,hm=>by
    have h1:(m.map (lkSize (y :: l) (p :: ps))).sum≤(m.map fun x=>(if y=x then p.size else 0)+lkSize l ps x).sum:=sum_le fun x _=>by
      rw [lkSize];split <;> omega
    rw [sum_add] at h1;have h2:=one_sum (y:=y) (c:=p.size) hm;have h3:=lk_sum (ns:=l) (ps:=ps) hm;rw [sizeL];omega
def SubUp (up:Bool) (K w:Sh):Prop:=Rel false true (keepS up K w) (otherS up K w)
theorem deep_eq (s:Sh):s.deep=1+deepL s.parts:=by cases s;rfl
theorem fits67 {s:Sh} (h:fitsS s=true) (hk:s.kind=6∨s.kind=7):s.of=[]∧s.name=[]:=by
  rw [fits_rec hk] at h;simp only [Bool.and_eq_true,beq_iff_eq] at h;exact h.1
theorem allB_mk {q:Sh→Bool} {k:Int} {o n:Str} {ns:List Str} {ps:List Sh}:(Sh.mk k o n ns ps).allB q=true↔q (.mk k o n ns ps)=true∧∀ x∈ps,x.allB q=true:=by
  rw [Sh.allB,Bool.and_eq_true,allL_iff]
theorem range_getD {f:Nat→Sh} {n i:Nat} (h:i<n):((List.range n).map f).getD i default=f i:=by simp [List.getD_eq_getElem?_getD,h]
theorem subup_intro {up:Bool} {K w:Sh} (fK:K.allB fitsS=true) (fw:w.allB fitsS=true) (e1:K.kind=w.kind) (e2:K.of=w.of) (e3:K.name=w.name)
    (hb:(K.kind=6∨K.kind=7)→∀ x p q,partS K x=some p→partS w x=some q→SubUp up p q)
    (h6:K.kind=6→up=true→∀ x,x∈w.names→x∈K.names) (h6':K.kind=6→up=false→∀ x,x∈K.names→x∈w.names)
    (h7:K.kind=7→up=true→∀ x,x∈K.names→x∈w.names) (h7':K.kind=7→up=false→∀ x,x∈w.names→x∈K.names)
    (hl:¬ (K.kind=6∨K.kind=7)→K.parts.length=w.parts.length)
    (hp:¬ (K.kind=6∨K.kind=7)→∀ i,i<K.parts.length→SubUp (if K.kind=8∧i+1<K.parts.length then !up else up) (K.parts.getD i default) (w.parts.getD i default)):SubUp up K w:=by
  cases up
  · show Rel false true w K;refine (rel_iff fw fK).2 (.inr ⟨e1.symm,e2.symm,e3.symm,fun hk x p q hp hq=>hb (by rw [e1];exact hk) x q p hq hp,fun hk hL x hx=>?_,fun hk hL x hx=>?_,fun hk=>(hl (by rw [e1];exact hk)).symm,fun hk i hi hn=>?_,fun h8 i hi=>?_⟩)
    · exact h7' (by simp at hL;omega) rfl x hx
    · exact h6' (by simp at hL;omega) rfl x hx
    · have l:=hl (by rw [e1];exact hk);have:=hp (by rw [e1];exact hk) i om_;rw [if_neg (by rw [e1,l];exact hn)] at this;exact this
    · have l:=hl (by rw [e1];omega);have:=hp (by rw [e1];omega) i om_;rw [if_pos (by rw [e1,l];exact ⟨h8,hi⟩)] at this;exact this
  · show Rel false true K w;refine (rel_iff fK fw).2 (.inr ⟨e1,e2,e3,hb,fun hk hL x hx=>?_,fun hk hL x hx=>?_,hl,fun hk i hi hn=>?_,fun h8 i hi=>?_⟩)
    · exact h7 (by simp at hL;omega) rfl x hx
    · exact h6 (by simp at hL;omega) rfl x hx
    · have:=hp hk i hi;rw [if_neg hn] at this;exact this
    · have:=hp om_ i om_;rw [if_pos ⟨h8,hi⟩] at this;exact this
end Go.Gx
