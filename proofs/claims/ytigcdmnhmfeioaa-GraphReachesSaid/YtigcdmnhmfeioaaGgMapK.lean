/- Maps with keys of any type that can be looked up: made, set, looked up. Conditions: none. -/
import Derived.DeepKeys3
import Derived.MapKept
import Derived.Maps.RangeRun
import Derived.Laws.Externs
import Derived.RangeFuncSeq
import Derived.Test.YtigcdmnhmfeioaaGgSrtP
import Derived.Test.YtigcdmnhmfeioaaGgRec
import Derived.Test.YtigcdmnhmfeioaaGgSrtK
namespace Go.Gx
open Go.Proofs
variable {P:Program} {n:Nat} {Q:Post} {D:List Deferred} {E:Env} {w:World}
variable {κ : Type} [DecidableEq κ]
def idxK (x:κ):List (κ × Value)→Nat
  | []=>0
  | y :: l=>if y.1=x then 0 else idxK x l+1
def valK (l:List (κ × Value)) (i:Nat):Value:=(l.map (·.2)).getD i undef
def putK (l:List (κ × Value)) (x:κ) (v:Value):List (κ × Value):=if idxK x l<l.length then l.set (idxK x l) (x,v) else l++[(x,v)]
structure KLaw (P:Program) (kt:TypeId) (K:κ → Value) (V:κ → Prop):Prop where
  check:∀ (e:Bool) (x:κ) (w:World),V x→(Instr.checkKey e 10000 kt (K x)).run P w=.ok () w
  find:∀ (x:κ) (es:List MapEntry) (l:List (κ × Value)) (w:World),V x→(∀ y∈l,V y.1)→(l.map (·.1)).Nodup→es.map kvM=l.map (fun y=>(K y.1,y.2))→
    (Instr.findKey kt (K x) es).run P w=.ok (if idxK x l<l.length then some (idxK x l,valK l (idxK x l)) else none) w
  stays:∀ (x:κ) (w:World),V x→(Instr.keyThatStays (K x) (K x)).run P w=.ok (K x) w
variable {K:κ → Value} {V:κ → Prop}
def MapIsK (K:κ → Value) (V:κ → Prop) (es:Array MapEntry) (clock:Nat) (l:List (κ × Value)):Prop:=
  es.toList.map kvM=l.map (fun x=>(K x.1,x.2))∧(es.toList.map (·.born)).Nodup∧(∀ n∈es.toList.map (·.born),n<clock)∧(∀ y∈l,V y.1)∧(l.map (·.1)).Nodup
def MapAtK (K:κ → Value) (V:κ → Prop) (w:World) (b:Nat) (l:List (κ × Value)):Prop:=∃ es clock,w.heap[b]? = some (.map es clock)∧MapIsK K V es clock l
omit [DecidableEq κ] in
theorem MapAtK.lt {b:Nat} {l:List (κ × Value)} (h:MapAtK K V w b l):b<w.heap.size:=by
  obtain ⟨es,c,h,-⟩:=h;exact (Array.getElem?_eq_some_iff.1 h).1
omit [DecidableEq κ] in
theorem MapAtK.carryR {R:Nat→Prop} {w':World} {b:Nat} {l:List (κ × Value)} (h:MapAtK K V w b l) (g:Gr R w w') (hn:¬ R b):MapAtK K V w' b l:=by
  have hlt:=h.lt;obtain ⟨es,c,h,hm⟩:=h;exact ⟨es,c,(g.block b hlt hn).trans h,hm⟩
omit [DecidableEq κ] in
theorem MapAtK.carry {w':World} {b:Nat} {l:List (κ × Value)} (h:MapAtK K V w b l) (g:Bel w w'):MapAtK K V w' b l:=h.carryR g fun f=>f
theorem idxK_spec {x:κ}:∀ {l:List (κ × Value)},(idxK x l<l.length∧(l[idxK x l]?).map (·.1)=some x∧∀ j,j<idxK x l→(l[j]?).map (·.1)≠some x)∨(idxK x l=l.length∧∀ y∈l,y.1≠x)
  | []=>.inr ⟨rfl,by simp⟩
  | y :: l=>by
    by_cases hy:y.1=x
    · refine .inl ⟨by simp [idxK,hy],by simp [idxK,hy],fun j hj=>?_⟩;rw [idxK,if_pos hy] at hj;omega
    · rcases idxK_spec (x:=x) (l:=l) with ⟨h1,h2,h3⟩ | ⟨h1,h2⟩
      · refine .inl ⟨by simp [idxK,hy,h1],by simpa [idxK,hy] using h2,fun j hj=>?_⟩;cases j with
        | zero=>simpa using hy
        | succ j=>simpa using h3 j (by rw [idxK,if_neg hy] at hj;omega)
      · refine .inr ⟨by simp [idxK,hy,h1],fun z hz=>?_⟩;rcases List.mem_cons.1 hz with rfl | hz
        · exact hy
        · exact h2 z hz
theorem idxK_key {x:κ} {l:List (κ × Value)} (h:idxK x l<l.length):(l[idxK x l]).1=x:=by
  rcases idxK_spec (x:=x) (l:=l) with ⟨h1,h2,-⟩ | ⟨h1,-⟩
  · rw [List.getElem?_eq_getElem h1] at h2;simpa using h2
  · omega
theorem idxK_mem {x:κ} {l:List (κ × Value)}:idxK x l<l.length↔x∈l.map (·.1):=by
  rcases idxK_spec (x:=x) (l:=l) with ⟨h1,h2,-⟩ | ⟨h1,h2⟩
  · refine ⟨fun _=>?_,fun _=>h1⟩;obtain ⟨y,hy,e⟩:=Option.map_eq_some_iff.1 h2;exact List.mem_map.2 ⟨y,List.mem_of_getElem? hy,e⟩
  · refine ⟨fun h=>by omega,fun h=>?_⟩;obtain ⟨y,hy,e⟩:=List.mem_map.1 h;exact absurd e (h2 y hy)
theorem putK_keys {l:List (κ × Value)} {x:κ} {v:Value}:(putK l x v).map (·.1)=if x∈l.map (·.1) then l.map (·.1) else l.map (·.1)++[x]:=by
  unfold putK;by_cases h:idxK x l<l.length
  · rw [if_pos h,if_pos (idxK_mem.1 h)];apply List.ext_getElem?;intro j;rw [List.getElem?_map,List.getElem?_map,List.getElem?_set];by_cases hj:idxK x l=j
    · subst hj;rw [if_pos rfl,if_pos h,List.getElem?_eq_getElem h];simp [idxK_key h]
    · rw [if_neg hj]
  · rw [if_neg h,if_neg (fun e=>h (idxK_mem.2 e))];simp
theorem putK_nodup {l:List (κ × Value)} {x:κ} {v:Value} (h:(l.map (·.1)).Nodup):((putK l x v).map (·.1)).Nodup:=by
  rw [putK_keys];split
  · exact h
  · next hx=>exact List.nodup_append.2 ⟨h,by simp,fun a ha b hb e=>by simp at hb;subst hb;subst e;exact hx ha⟩
theorem putK_valid {l:List (κ × Value)} {x:κ} {v:Value} (h:∀ y∈l,V y.1) (hx:V x):∀ y∈putK l x v,V y.1:=by
  intro y hy;have hk:y.1∈(putK l x v).map (·.1):=List.mem_map_of_mem hy;rw [putK_keys] at hk;split at hk
  · obtain ⟨z,hz,e⟩:=List.mem_map.1 hk;rw [← e];exact h z hz
  · rcases List.mem_append.1 hk with hk | hk
    · obtain ⟨z,hz,e⟩:=List.mem_map.1 hk;rw [← e];exact h z hz
    · simp at hk;rw [hk];exact hx
theorem idxK_congr {y:κ}:∀ {l m:List (κ × Value)},l.map (·.1)=m.map (·.1)→idxK y l=idxK y m
  | [],[],_=>rfl
  | [],_ :: _,h=>by simp at h
  | _ :: _,[],h=>by simp at h
  | a :: l,b :: m,h=>by
    simp only [List.map_cons,List.cons.injEq] at h;rw [idxK,idxK,h.1,idxK_congr h.2]
theorem idxK_snoc {y:κ} {x:κ × Value}:∀ {l:List (κ × Value)},idxK y (l++[x])=if idxK y l<l.length then idxK y l else if x.1=y then l.length else l.length+1
  | []=>by simp [idxK]
  | a :: l=>by
    rw [List.cons_append,idxK,idxK];by_cases h:a.1=y
    · simp [h]
    · rw [if_neg h,if_neg h,idxK_snoc (l:=l)];simp only [List.length_cons];by_cases h2:idxK y l<l.length
      · rw [if_pos h2,if_pos (show idxK y l+1<l.length+1 by omega)]
      · rw [if_neg h2,if_neg (show ¬ idxK y l+1<l.length+1 by omega)];split <;> rfl
omit [DecidableEq κ] in
theorem valK_at {l:List (κ × Value)} {i:Nat} (h:i<l.length):valK l i=l[i].2:=by
  unfold valK;rw [List.getD_eq_getElem?_getD,List.getElem?_map,List.getElem?_eq_getElem h];rfl
def getK (l:List (κ × Value)) (x:κ):Option Value:=if idxK x l<l.length then some (valK l (idxK x l)) else none
theorem getK_put {l:List (κ × Value)} {x y:κ} {v:Value}:getK (putK l x v) y=if y=x then some v else getK l y:=by
  unfold getK putK;by_cases h:idxK x l<l.length
  · rw [if_pos h];have e:idxK y (l.set (idxK x l) (x,v))=idxK y l:=idxK_congr (by
      apply List.ext_getElem?;intro j;rw [List.getElem?_map,List.getElem?_map,List.getElem?_set];by_cases hj:idxK x l=j
      · subst hj;rw [if_pos rfl,if_pos h,List.getElem?_eq_getElem h];simp [idxK_key h]
      · rw [if_neg hj])
    rw [e,List.length_set];by_cases hy:y=x
    · subst hy;rw [if_pos h,if_pos rfl,valK_at (by simpa using h)];simp
    · rw [if_neg hy];by_cases h2:idxK y l<l.length
      · have hne:idxK x l≠idxK y l:=fun e=>hy (by have h3:=idxK_key h2;have h4:=idxK_key h;simp only [e] at h4;rw [← h3,h4])
        rw [if_pos h2,if_pos h2,valK_at (by simpa using h2),valK_at h2];simp [hne]
      · rw [if_neg h2,if_neg h2]
  · rw [if_neg h,idxK_snoc,List.length_append,List.length_singleton];by_cases h2:idxK y l<l.length
    · have hy:y≠x:=fun e=>h (e ▸ h2)
      rw [if_pos h2,if_pos om_,if_neg hy,if_pos h2,valK_at (by simp;omega),valK_at h2,List.getElem_append_left h2]
    · rw [if_neg h2];by_cases hy:y=x
      · subst hy;rw [if_pos rfl,if_pos om_,if_pos rfl,valK_at (by simp)];simp
      · have hy2:¬ (x,v).1=y:=fun e=>hy e.symm
        rw [if_neg hy2,if_neg om_,if_neg hy,if_neg h2]
section
variable {t kt et:TypeId}
omit [DecidableEq κ] in
theorem L.mkmapK {t kt et ty:TypeId} {ops:Array Oper} {r:List Oper} {d:Nat} {p:String} {af:Array Edge} (_hm:P.underlying t=some (.map kt et)) (hd:Nat.blt d n=true)
    (kk:∀ w1,MapAtK K V w1 w.heap.size []→Bel w w1→w1.heap.size=w.heap.size+1→L P n ops Q r D (upd E d (.map (some w.heap.size))) w1):
    L P n ops Q (⟨some d,.makeMap t none,ty,p,af,none⟩ :: r) D E w:=by
  have hX:X P (.makeMap t none) ty E w (.map (some w.heap.size)) (w.alloc (.map #[] 0)):=by
    unfold X;simp [execOp,Instr.makeMap,Result.andThen]
  refine L.val hX hd (kk _ ⟨#[],0,by rw [← World.alloc_eq];simp,rfl,by simp,by simp,by simp,by simp⟩ (gr_of (row:=none) (World.grownBy_alloc w _ none) |>.mono (fun _ _ h=>by cases h)) (by simp))
omit [DecidableEq κ] in
theorem set_kvK {es:List MapEntry} {l:List (κ × Value)} {i:Nat} {x:κ} {v:Value} (h:es.map kvM=l.map fun x=>(K x.1,x.2)):
    (es.modify i fun e=>{ e with key:=K x,val:=v }).map kvM=(l.set i (x,v)).map fun x=>(K x.1,x.2):=by
  induction es generalizing l i with
  | nil=>cases l with
    | nil=>simp
    | cons=>simp at h
  | cons e es ih=>cases l with
    | nil=>simp at h
    | cons y l=>
      simp only [List.map_cons,List.cons.injEq] at h;cases i with
      | zero=>simp [kvM,h.2]
      | succ i=>simp only [List.modify_succ_cons,List.set_cons_succ,List.map_cons,h.1,ih h.2]
theorem L.mapsetK {t kt et ty:TypeId} {ops:Array Oper} {r:List Oper} {m x y:Operand} {p:String} {af:Array Edge} {b:Nat} {l:List (κ × Value)} {k:κ} {v:Value} (hm:P.underlying t=some (.map kt et)) (hk:KLaw P kt K V)
    (hx:ev E m=.map (some b)) (hy:ev E x=K k) (hV:V k) (hv:ev E y=v) (hl:MapAtK K V w b l)
    (kk:∀ w1,MapAtK K V w1 b (putK l k v)→Gr (· = b) w w1→w1.heap.size=w.heap.size→L P n ops Q r D E w1):
    L P n ops Q (⟨none,.mapUpdate t m x y,ty,p,af,none⟩ :: r) D E w:=by
  have hlt:=hl.lt;obtain ⟨es,c,hb,hes,hn,hc,hval,hnd⟩:=hl;have hf:=hk.find k es.toList l w hV hval hnd hes;have hkeep:∀ w o,Gr (· = b) w { w with heap:=w.heap.setIfInBounds b o }:=fun w o=>
    ⟨rfl,rfl,rfl,by simp,fun i _ hi=>by simp [Ne.symm hi]⟩
  by_cases h:idxK k l<l.length
  · rw [if_pos h] at hf;have hkey:((es[idxK k l]?).map (·.key)).getD (K k)=K k:=by
      have hg:=congrArg (fun q:List (Value × Value)=>q[idxK k l]?) hes;simp only [List.getElem?_map] at hg;rw [List.getElem?_eq_getElem h] at hg;have hes2:es[idxK k l]? = es.toList[idxK k l]? := by simp
      rw [hes2];cases hq:es.toList[idxK k l]? with
      | none=>simp
      | some e=>
        rw [hq] at hg;simp only [Option.map_some,Option.some.injEq,kvM,Prod.mk.injEq] at hg;simp only [Option.map_some,Option.getD_some,hg.1,idxK_key h]
    refine L.skip (w':={ w with heap:=w.heap.setIfInBounds b (.map (es.modify (idxK k l) fun e=>{ e with key:=K k,val:=v }) c) }) ?_ (kk _ ⟨es.modify (idxK k l) fun e=>{ e with key:=K k,val:=v },c,by simp [hlt],?_,by rw [Array.toList_modify,born_modify];exact hn,by rw [Array.toList_modify,born_modify];exact hc,putK_valid hval hV,putK_nodup hnd⟩ (hkeep _ _) (by simp))
    · unfold Xs;simp [execOp,hx,hy,hv,Instr.mapUpdate,run_underlying hm,MapKept.run_getObj_map hb,hk.check _ k w hV,hf,hkey,hk.stays k w hV,MapKept.run_setObj_map _ hb,Result.andThen]
    · unfold putK;rw [if_pos h,Array.toList_modify];exact set_kvK hes
  · rw [if_neg h] at hf;refine L.skip (w':={ w with heap:=w.heap.setIfInBounds b (.map (es.push { key:=K k,val:=v,born:=c }) (c+1)) }) ?_ (kk _ ⟨es.push { key:=K k,val:=v,born:=c },c+1,by simp [hlt],?_,?_,?_,putK_valid hval hV,putK_nodup hnd⟩ (hkeep _ _) (by simp))
    · unfold Xs;simp [execOp,hx,hy,hv,Instr.mapUpdate,run_underlying hm,MapKept.run_getObj_map hb,hk.check _ k w hV,hf,MapKept.run_setObj_map _ hb,Result.andThen]
    · unfold putK;rw [if_neg h,Array.toList_push,List.map_append,hes];simp [kvM]
    · rw [Array.toList_push,List.map_append];refine List.nodup_append.2 ⟨hn,by simp,fun x hx y hy e=>?_⟩;have:=hc x hx;simp at hy;omega
    · rw [Array.toList_push,List.map_append];intro x hx;rcases List.mem_append.1 hx with hx | hx
      · have:=hc x hx;omega
      · simp at hx;omega
end
end Go.Gx
namespace Go.Gx
open Go.Proofs
variable {P:Program} {n:Nat} {Q:Post} {D:List Deferred} {E:Env} {w:World}
def unS:Value→Str
  | .string b=>b.data.toList
  | _=>[]
theorem unS_S (x:Str):unS (S x)=x:=by unfold unS S;simp
def decM (e:MapEntry):Str × Value:=(unS e.key,e.val)
theorem map_dec:∀ {es:List MapEntry} {l:List (Str × Value)},es.map kvM=l.map (fun x=>(S x.1,x.2))→es.map decM=l∧∀ e∈es,e.key=S (decM e).1
  | [],[],_=>⟨rfl,fun e h=>by cases h⟩
  | [],_ :: _,h=>by simp at h
  | _ :: _,[],h=>by simp at h
  | e :: es,y :: l,h=>by
    simp only [List.map_cons,List.cons.injEq,kvM,Prod.mk.injEq] at h;obtain ⟨⟨hk,hv⟩,ht⟩:=h;obtain ⟨h1,h2⟩:=map_dec ht;have hd:decM e=y:=by unfold decM;rw [hk,unS_S,hv]
    refine ⟨by rw [List.map_cons,hd,h1],fun z hz=>?_⟩;rcases List.mem_cons.1 hz with rfl | hz
    · rw [hd,hk]
    · exact h2 z hz
def IterAt (w:World) (r b:Nat) (l vis:List (Str × Value)):Prop:=
  ∃ es clock sb,∃ ds:List MapEntry,w.heap[b]? = some (.map es clock)∧MapIs es clock l∧w.heap[r]? = some (.mapIter (some b) clock sb clock)∧sb.toList=ds.map (·.born)∧(∀ d∈ds,d∈es.toList)∧(ds.map (·.born)).Nodup∧ds.map decM=vis
theorem IterAt.lt {r b:Nat} {l vis:List (Str × Value)} (h:IterAt w r b l vis):r<w.heap.size∧b<w.heap.size∧b≠r:=by
  obtain ⟨es,c,sb,ds,h1,-,h2,-⟩:=h;refine ⟨(Array.getElem?_eq_some_iff.1 h2).1,(Array.getElem?_eq_some_iff.1 h1).1,fun e=>?_⟩;rw [e,h2] at h1;cases h1
theorem IterAt.walk {r b:Nat} {l vis:List (Str × Value)} (h:IterAt w r b l vis):∃ o:Obj,w.heap[r]? = some o∧o.isWalk=true:=by
  obtain ⟨es,c,sb,ds,-,-,h2,-⟩:=h;exact ⟨_,h2,rfl⟩
theorem IterAt.carryR {R:Nat→Prop} {w':World} {r b:Nat} {l vis:List (Str × Value)} (h:IterAt w r b l vis) (g:Gr R w w') (h1:¬ R r) (h2:¬ R b):IterAt w' r b l vis:=by
  obtain ⟨hr,hb,-⟩:=h.lt;obtain ⟨es,c,sb,ds,a1,a2,a3,a4⟩:=h;exact ⟨es,c,sb,ds,(g.block b hb h2).trans a1,a2,(g.block r hr h1).trans a3,a4⟩
theorem IterAt.carry {w':World} {r b:Nat} {l vis:List (Str × Value)} (h:IterAt w r b l vis) (g:Bel w w'):IterAt w' r b l vis:=h.carryR g (fun f=>f) (fun f=>f)
theorem IterAt.keep {w':World} {r b:Nat} {l vis:List (Str × Value)} (h:IterAt w r b l vis) (g:KeepsWalks w w'):IterAt w' r b l vis:=by
  obtain ⟨hr,hb,-⟩:=h.lt;obtain ⟨es,c,sb,ds,a1,a2,a3,a4⟩:=h;exact ⟨es,c,sb,ds,g.same b _ a1 rfl,a2,g.same r _ a3 rfl,a4⟩
theorem len_subN {l m:List Nat} (hd:l.Nodup) (hs:∀ x,x∈l→x∈m):l.length≤m.length:=by
  induction l generalizing m with
  | nil=>simp
  | cons x l ih=>
    rw [List.nodup_cons] at hd;have hx:=hs x (by simp);have:=ih (m:=m.erase x) hd.2 fun y hy=>(List.mem_erase_of_ne (fun e=>hd.1 (by rw [← e];exact hy))).2 (hs y (by simp [hy]))
    rw [List.length_erase_of_mem hx] at this;have:=List.length_pos_of_mem hx;simp;omega
theorem born_inj {l:List MapEntry} (h:(l.map (·.born)).Nodup) {a b:MapEntry} (ha:a∈l) (hb:b∈l) (e:a.born=b.born):a=b:=by
  have h1:=find_born a l h ha;have h2:=find_born b l h hb;rw [e,h2] at h1;simpa using h1.symm
theorem L.rangeM {t kt et ty:TypeId} {ops:Array Oper} {r:List Oper} {d:Nat} {x:Operand} {p:String} {af:Array Edge} {b:Nat} {l:List (Str × Value)} (hm:P.underlying t=some (.map kt et)) (hx:ev E x=.map (some b)) (hd:Nat.blt d n=true) (hl:MapAt w b l)
    (kk:∀ w1,IterAt w1 w.heap.size b l []→w.grownBy w1 none→Bel w w1→w1.heap.size=w.heap.size+1→L P n ops Q r D (upd E d (.pointer (some ⟨w.heap.size,0,none⟩))) w1):
    L P n ops Q (⟨some d,.range t x,ty,p,af,none⟩ :: r) D E w:=by
  obtain ⟨es,c,hb,hes⟩:=hl;have hlt:=(Array.getElem?_eq_some_iff.1 hb).1;have hX:X P (.range t x) ty E w (.pointer (some ⟨w.heap.size,0,none⟩)) (w.alloc (.mapIter (some b) c #[] c)):=by
    unfold X;simp [execOp,hx,Instr.range,run_underlying hm,MapKept.run_getObj_map hb,Result.andThen]
  have hg:=World.grownBy_alloc w (.mapIter (some b) c #[] c) none;refine L.val hX hd (kk _ ⟨es,c,#[],[],?_,hes,World.alloc_heap_new w _,rfl,by simp,by simp,rfl⟩ hg ((gr_of hg).mono (fun _ _ h=>by cases h)) (by simp));exact (RowKit.Below.heap_alloc w _ b hlt).trans hb
theorem L.nextM {ty:TypeId} {ops:Array Oper} {r:List Oper} {d:Nat} {x:Operand} {p:String} {af:Array Edge} {rb b:Nat} {l vis:List (Str × Value)} (hx:ev E x=.pointer (some ⟨rb,0,none⟩)) (hd:Nat.blt d n=true) (hI:IterAt w rb b l vis)
    (k0:vis.Perm l→L P n ops Q r D (upd E d (.tuple #[.bool false])) w)
    (k1:∀ kv w1,kv∈l→vis.length<l.length→IterAt w1 rb b l (vis++[kv])→w.grownBy w1 (some rb)→Gr (· = rb) w w1→w1.heap.size=w.heap.size→L P n ops Q r D (upd E d (.tuple #[.bool true,S kv.1,kv.2])) w1):
    L P n ops Q (⟨some d,.next x false,ty,p,af,none⟩ :: r) D E w:=by
  obtain ⟨-,-,hbr⟩:=hI.lt;obtain ⟨es,c,sb,ds,hb,⟨hes,hn,hc⟩,hr,hsb,hsub,hdn,hvis⟩:=hI;obtain ⟨hdec,hkey⟩:=map_dec hes;have hold:∀ x∈es.toList,x.born<c:=fun x hx=>hc _ (List.mem_map_of_mem hx)
  rcases run_next_at (P:=P) w ty rb b c c sb es c hr hb hold (Nat.le_refl _) with ⟨h0,hrun⟩ | ⟨e,he,w1,hw1,hrun⟩
  · refine L.val (v:=.tuple #[.bool false]) (w':=w) (by unfold X;simp [execOp,hx,hrun,Result.andThen]) hd (k0 ?_);have hall:∀ e∈es.toList,e.born∈ds.map (·.born):=fun e he=>by
      refine Decidable.byContradiction fun hno=>?_
      have:e∈(leftOf es sb).toList:=by
        unfold leftOf;simp only [Array.toList_filter,List.mem_filter];refine ⟨he,?_⟩;rw [← hsb] at hno;simpa using hno
      have hp:=List.length_pos_of_mem this;simp at hp;omega
    have hds:ds.Nodup:=List.Pairwise.of_map (·.born) (fun _ _ h e=>h (by rw [e])) hdn;have hesn:es.toList.Nodup:=List.Pairwise.of_map (·.born) (fun _ _ h e=>h (by rw [e])) hn;have hp:ds.Perm es.toList:=(List.perm_ext_iff_of_nodup hds hesn).2 fun e=>⟨hsub e,fun he=>by
      obtain ⟨d',hd',e'⟩:=List.mem_map.1 (hall e he);rw [← born_inj hn (hsub d' hd') he e'];exact hd'⟩
    rw [← hvis,← hdec];exact hp.map _
  · have hel:e∈es.toList∧¬ e.born∈ds.map (·.born):=by
      unfold leftOf at he;simp only [Array.toList_filter,List.mem_filter] at he;refine ⟨he.1,?_⟩;rw [← hsb];simpa using he.2
    have hw1s:w1.heap=w.heap:=by rcases hw1 with rfl | rfl <;> rfl
    have hsize:(Go.ChangeMaps.setBlock w1 rb (.mapIter (some b) c (sb.push e.born) c)).heap.size=w.heap.size:=by simp [Go.ChangeMaps.setBlock,hw1s]
    have hgr:w.grownBy (Go.ChangeMaps.setBlock w1 rb (.mapIter (some b) c (sb.push e.born) c)) (some rb):=by
      refine ⟨?_,?_,?_,by rw [hsize];exact Nat.le_refl _,fun k hk hne=>?_⟩
      · rcases hw1 with rfl | rfl <;> rfl
      · rcases hw1 with rfl | rfl <;> rfl
      · rcases hw1 with rfl | rfl <;> rfl
      · have hne:rb≠k:=fun e=>hne (by rw [e])
        simp [Go.ChangeMaps.setBlock,hw1s,hne]
    have hkv:decM e∈l:=by rw [← hdec];exact List.mem_map_of_mem hel.1
    have hval:(Value.tuple #[.bool true,e.key,e.val])=.tuple #[.bool true,S (decM e).1,(decM e).2]:=by rw [hkey e hel.1];rfl
    have hlen:vis.length<l.length:=by
      have:=len_subN (l:=(ds++[e]).map (·.born)) (m:=es.toList.map (·.born)) (by
        rw [List.map_append];refine List.nodup_append.2 ⟨hdn,by simp,fun x hx y hy e2=>?_⟩;simp at hy;subst e2;exact hel.2 (hy ▸ hx)) (fun x hx=>by
        rw [List.map_append] at hx;rcases List.mem_append.1 hx with hx | hx
        · obtain ⟨d',hd',rfl⟩:=List.mem_map.1 hx;exact List.mem_map_of_mem (hsub d' hd')
        · simp at hx;subst hx;exact List.mem_map_of_mem hel.1)
      rw [← hvis,← hdec];simp at this ⊢;omega
    refine L.val (v:=.tuple #[.bool true,S (decM e).1,(decM e).2]) (w':=Go.ChangeMaps.setBlock w1 rb (.mapIter (some b) c (sb.push e.born) c)) (by unfold X;simp [execOp,hx,hrun,Result.andThen,hval]) hd
      (k1 (decM e) _ hkv hlen ⟨es,c,sb.push e.born,ds++[e],?_,⟨hes,hn,hc⟩,?_,?_,?_,?_,?_⟩ hgr ((gr_of hgr).mono fun k _ h=>by cases h;rfl) hsize)
    · have hne:rb≠b:=fun e=>hbr e.symm
      simp only [Go.ChangeMaps.setBlock,hw1s];rw [Array.getElem?_setIfInBounds_ne hne];exact hb
    · simp only [Go.ChangeMaps.setBlock,hw1s];rw [Array.getElem?_setIfInBounds_self_of_lt (Array.getElem?_eq_some_iff.1 hr).1]
    · rw [Array.toList_push,hsb,List.map_append];rfl
    · intro d' hd';rcases List.mem_append.1 hd' with h | h
      · exact hsub d' h
      · rw [List.mem_singleton.1 h];exact hel.1
    · rw [List.map_append];refine List.nodup_append.2 ⟨hdn,by simp,fun x hx y hy e2=>?_⟩;simp at hy;subst e2;exact hel.2 (hy ▸ hx)
    · rw [List.map_append,hvis];rfl
theorem x_entry {ty:TypeId} {x:Operand} {rb b:Nat} {l vis:List (Str × Value)} {kv:Str × Value} (hx:ev E x=.pointer (some ⟨rb,0,none⟩)) (hI:IterAt w rb b l (vis++[kv])):X P (.entry x) ty E w (.tuple #[S kv.1,kv.2]) w:=by
  obtain ⟨es,c,sb,ds,hb,⟨hes,hn,hc⟩,hr,hsb,hsub,hdn,hvis⟩:=hI;obtain ⟨hdec,hkey⟩:=map_dec hes;obtain ⟨ds',e,rfl⟩:∃ ds' e,ds=ds'++[e]:=by
    rcases List.eq_nil_or_concat ds with h | ⟨l,a,h⟩
    · rw [h] at hvis;simp at hvis
    · exact ⟨l,a,by rw [h];simp⟩
  have hkv:decM e=kv:=by
    rw [List.map_append] at hvis;have:=congrArg List.getLast? hvis;simpa using this
  have he:=hsub e (by simp);obtain ⟨sb',rfl⟩:∃ sb':Array Nat,sb=sb'.push e.born:=by
    refine ⟨sb.pop,?_⟩;apply Array.ext';rw [Array.toList_push,Array.toList_pop,hsb];simp
  have hrun:=run_entry_at (P:=P) w rb b c sb' es c e hr hb he hn;rw [hkey e he,hkv] at hrun;have hv:e.val=kv.2:=by rw [← hkv];rfl
  rw [hv] at hrun;unfold X;simp [execOp,hx,hrun,Result.andThen]
end Go.Gx
namespace Go.Gx
open Go.Proofs
section
variable {P:Program} {n:Nat} {Q:Post} {D:List Deferred} {E:Env} {w:World}
theorem addp (b o j:Nat):(⟨b,o,none⟩:Addr).add j=⟨b,o+j,none⟩:=by cases j <;> simp [Addr.add]
theorem flat_len {k:Nat}:∀ {rows:List (List Value)},(∀ r∈rows,r.length=k)→rows.flatten.length=rows.length * k
  | [],_=>by simp
  | r :: rows,h=>by
    rw [List.flatten_cons,List.length_append,h r (by simp),flat_len (fun q hq=>h q (by simp [hq])),List.length_cons,Nat.add_mul,Nat.one_mul,Nat.add_comm]
def HoldsN (w:World) (u:Value) (m:Nat) (news:List Value):Prop:=
  (∃ a c,u=.slice (some a) m c∧∀ j x,news[j]? = some x→w.cell? (a.add j)=some x)∨(∃ c,u=.slice none 0 c∧m=0∧news=[])
theorem HoldsN.carry {w':World} {u:Value} {m:Nat} {news:List Value} (h:HoldsN w u m news) (g:Bel w w'):HoldsN w' u m news:=by
  rcases h with ⟨a,c,rfl,h⟩ | h
  · exact .inl ⟨a,c,rfl,fun j x hj=>g.keep (h j x hj)⟩
  · exact .inr h
theorem holdsN_box {b k:Nat} {t:TypeId} {cs:List Value} (h:Box w b t cs):HoldsN w (.slice (some ⟨b,0,none⟩) k k) k cs:=.inl ⟨_,_,rfl,h.news⟩
theorem StrsAt.holds {A:Nat→Prop} {v:Value} {l:List Str} (h:StrsAt A w v l):HoldsN w v l.length (l.map S):=by
  obtain ⟨p,cap,rfl,h1,h2,h3,hx,h4⟩:=h;by_cases hl:l=[]
  · subst hl;cases p with
    | none=>exact .inr ⟨cap,rfl,rfl,rfl⟩
    | some a=>exact .inl ⟨a,cap,rfl,fun j x hj=>by simp at hj⟩
  · obtain ⟨b,o,rfl,-,hc⟩:=h4 hl;refine .inl ⟨_,cap,rfl,fun j x hj=>?_⟩;have hj':j<l.length:=by simpa using (List.getElem?_eq_some_iff.1 hj).1
    have e:=hc j hj';rw [List.getElem?_map,List.getElem?_eq_getElem hj'] at hj;simp only [Option.map_some,Option.some.injEq] at hj;rw [List.getD_eq_getElem?_getD,List.getElem?_eq_getElem hj',Option.getD_some] at e;rw [addp,e,hj]
theorem RecRow.holds {α : Type} [Inhabited α] {C:Thing α} {k:Nat} {A:Nat→Prop} {p:Option Addr} {row:Nat→List Value} {l:List α} {cap:Nat} (h:RecRow C k A w p row l):HoldsN w (.slice p l.length cap) l.length ((List.range l.length).map row).flatten:=by
  by_cases hl:l=[]
  · subst hl;cases p with
    | none=>exact .inr ⟨cap,rfl,rfl,rfl⟩
    | some a=>exact .inl ⟨a,cap,rfl,fun j x hj=>by simp at hj⟩
  · obtain ⟨b,o,rfl,-,hc⟩:=h.at_ hl;refine .inl ⟨_,cap,rfl,fun j x hj=>?_⟩;have hr:∀ r∈(List.range l.length).map row,r.length=k:=fun r hr=>by
      obtain ⟨i,hi,rfl⟩:=List.mem_map.1 hr;exact h.len i (by simpa using hi)
    have hlen:((List.range l.length).map row).flatten.length=l.length * k:=by rw [flat_len hr];simp
    have hk:0<k:=by
      have hlt:=(List.getElem?_eq_some_iff.1 hj).1;rcases Nat.eq_zero_or_pos k with h0 | h0
      · rw [hlen,h0,Nat.mul_zero] at hlt;omega
      · exact h0
    have hlt:=(List.getElem?_eq_some_iff.1 hj).1;rw [hlen] at hlt;have hi:j / k<l.length:=Nat.div_lt_of_lt_mul (by rw [Nat.mul_comm];exact hlt);have e:j / k * k+j % k=j:=by rw [Nat.mul_comm];exact Nat.div_add_mod j k
    have hf:=flatk hr (i:=j / k) (Nat.mod_lt j hk) (by simpa using hi);rw [e,hj] at hf;have hrow:((List.range l.length).map row).getD (j / k) []=row (j / k):=by simp [hi]
    rw [hrow] at hf;rw [addp,show o+j=o+j / k * k+j % k by omega,hc _ _ hi (Nat.mod_lt j hk),← hf]
theorem L.appendN {base:Nat} {e:TypeId} {sz:Nat} {v:Value} {k:Nat} {xs:List Value} {ops:Array Oper} {r:List Oper} {d:Nat} {x y:Operand} {T t:TypeId} {p:String} {af:Array Edge} {u:Value} {m:Nat} {news:List Value}
    (hu:P.underlying T=some (.slice e)) (he:elT P e sz=true) (hx:ev E x=v) (hy:ev E y=u) (hd:Nat.blt d n=true) (h:Own w base e sz v k xs)
    (hl:news.length=m * sz) (hn:HoldsN w u m news) (h1:∀ u∈news,u.oneCell'=true) (hk:(k+m) * 200≤140737488355328) (hb:base≤w.heap.size)
    (kk:∀ v' w',Own w' base e sz v' (k+m) (xs++news)→Gr (fun j=>some j=v.ownBlock) w w'→(v'.ownBlock=v.ownBlock∨v'.ownBlock=some w.heap.size)→L P n ops Q r D (upd E d v') w'):
    L P n ops Q (⟨some d,.call ⟨.builtin .append,#[x,y],#[T,T]⟩,t,p,af,none⟩ :: r) D E w:=by
  rcases hn with ⟨a,c,rfl,hn⟩ | ⟨c,rfl,rfl,rfl⟩
  · exact L.append hu he hx hy hd h hl hn h1 hk hb (fun v' w' a1 a2 _ a4=>kk v' w' a1 a2 a4)
  · obtain ⟨i,z,hi,-⟩:=elT_spec he;have hrun:(Builtin.append_ #[T,T] t #[v,.slice none 0 c]).run P w=.ok v w:=by
      rcases h.2 with ⟨rfl,rfl⟩ | ⟨g,cap,cur,rfl,_,_,hnc,_⟩
      · simp [Builtin.append_,run_underlying hu,sizeOf,typeInfo,hi,Builtin.lenOf,Builtin.firstCells]
      · simp [Builtin.append_,run_underlying hu,sizeOf,typeInfo,hi,Builtin.lenOf,Builtin.firstCells,hnc,storeCells]
    refine L.val (x_append hx hy hrun) hd (kk v w (by simpa using h) (Gr.refl _ _) (.inl rfl))
end
end Go.Gx
namespace Go.Gx
variable {P:Program} {ops:Array Oper} {Q:Exit→Act→World→Prop} {C:World→Prop}
def YF (P:Program) (ops:Array Oper) (C:World→Prop) (o:Oper) (v:Value) (a:Act):Prop:=
  (Region.wanted o (yielded ops a.tmps)=true∧∀ w,C w→(execOp a.eval o).run P w=.ok (.value v) w)∨(Region.wanted o (yielded ops a.tmps)=false∧v=undef)
theorem YF.same {o:Oper} {v:Value} {a a':Act} (hy:YF P ops C o v a) (he:execOp a'.eval o=execOp a.eval o) (hw:Region.wanted o (yielded ops a'.tmps)=Region.wanted o (yielded ops a.tmps)):YF P ops C o v a':=by
  unfold YF at *;rw [he,hw];exact hy
theorem YF.take {i:Nat} {o:Oper} {v:Value} {a:Act} (hi:ops[i]? = some o) (hy:YF P ops C o v a) {K:Act→World→Prop} {w:World} (hC:C w) (h:K (a.put o.dst v) w):wpOp P ops Q i K a w:=by
  unfold wpOp;rcases hy with ⟨h1,h2⟩ | ⟨h1,rfl⟩
  · simp only [hi,h1,if_true,Oper.wp,h2 w hC,Oper.upon];exact .inl h
  · simp only [hi];rw [if_neg (by rw [h1];simp)];exact h
theorem wpOp_lateF {j:Nat} {oi oj:Oper} {v:Value} (hj:ops[j]? = some oj) (hap:oi.apart ops oj=true)
    (hsi:∀ cs b,oi.op≠.select cs b) (hsj:∀ cs b,oj.op≠.select cs b)
    (hQ:∀ c a w,Q (.panic c) (a.put oi.dst v) w→Q (.panic c) a w) {K:Act→World→Prop} {a:Act} {w:World}
    (hy:YF P ops C oi v a) (h:wpOp P ops Q j K (a.put oi.dst v) w):
    wpOp P ops Q j (fun a' w'=>YF P ops C oi v a'∧K (a'.put oi.dst v) w') a w:=by
  obtain ⟨h1,h2,h3⟩:=Oper.apart_spec hap;have keep:∀ u,YF P ops C oi v (a.put oj.dst u):=fun u=>hy.same (execOp_put oi hsi a oj.dst u h3) (wanted_put oi a oj.dst u h3)
  have hw1:=wanted_put oj a oi.dst v h1;have he1:=execOp_put oj hsj a oi.dst v h1;unfold wpOp at h ⊢;simp only [hj] at h ⊢;rw [hw1] at h;by_cases hw:Region.wanted oj (yielded ops a.tmps)=true
  · rw [if_pos hw] at h ⊢;rcases h with h | ⟨ha,hl⟩
    · left;unfold Oper.wp at h ⊢;rw [he1] at h;generalize (execOp a.eval oj).run P w=r at h ⊢;cases r with
      | halt x w'=>
        cases x with
        | panic u=>exact hQ _ _ _ h
        | _=>exact h
      | ok x w'=>
        cases x with
        | value u=>exact ⟨keep u,by rw [← Act.put_comm a v u h2];exact h⟩
        | skip=>exact ⟨keep _,by rw [← Act.put_comm a v undef h2];exact h⟩
        | defer d=>
          refine ⟨(hy.same (a':={ a with defers:=d :: a.defers }) rfl rfl).same (execOp_put oi hsi _ oj.dst _ h3) (wanted_put oi _ oj.dst _ h3),?_⟩;rw [← Act.put_comm _ v undef h2,← Act.put_defers];exact h
        | enter f args=>
          refine Calls.mono h fun e w'' he=>?_
          cases e with
          | returned u=>exact ⟨keep u,by rw [← Act.put_comm a v u h2];exact he⟩
          | panicked c=>exact hQ _ _ _ he
          | outgrown=>exact he
        | row row args=>exact Rows.mono h fun u w'' he=>⟨keep u,by rw [← Act.put_comm a v u h2];exact he⟩
        | _=>exact h
    · exact .inr ⟨by unfold Oper.asks at *;rw [he1] at ha;exact ha,hl⟩
  · rw [if_neg hw] at h ⊢;exact ⟨keep _,by rw [← Act.put_comm a v undef h2];exact h⟩
theorem getD_out {listed:Array Bool} {st:Nat} (h:listed.size≤st):listed.getD st false=false:=by
  simp [Array.getElem?_eq_none h]
theorem wpAnyC.takeF {i st:Nat} {oi:Oper} {v:Value} (hi:ops[i]? = some oi) (hsel:∀ (j:Nat) (o:Oper) cs b,ops[j]? = some o→o.op≠.select cs b)
    (hQ:∀ c a w,Q (.panic c) (a.put oi.dst v) w→Q (.panic c) a w):
    ∀ (fuel:Nat) (listed:Array Bool) (a:Act) (w:World),listed.size≤st→
      (∀ j oj,ops[j]? = some oj→j≠i→listed.getD j true=false→(∀ e∈oj.after,Region.binds .any e=true→e.on≠i)→oi.apart ops oj=true)→
      i∈Region.ready .any ops listed→YF P ops C oi v a→
      wpAnyC P ops C st Q fuel (listed.setIfInBounds i true) (a.put oi.dst v) w→wpAnyC P ops C st Q (fuel+1) listed a w:=by
  intro fuel;induction fuel with
  | zero=>
    intro listed a w hsz _ hr hy H;have hC:C w:=H.1 (getD_out (by simpa using hsz));refine ⟨fun _=>hC,fun h=>(by rw [h] at hr;cases hr),fun j hj=>?_⟩;by_cases hji:j=i
    · subst hji;exact hy.take hi hC H
    · have:=ready_mono hj hji;rw [H.2.1] at this;cases this
  | succ fuel ih=>
    intro listed a w hsz hfree hr hy H;have hun:=(mem_ready.1 hr).1;have hC:C w:=H.here (getD_out (by simpa using hsz));refine ⟨fun _=>hC,fun h=>(by rw [h] at hr;cases hr),fun j hj=>?_⟩;by_cases hji:j=i
    · subst hji;exact hy.take hi hC H
    · have h1:=H.2.2 j (ready_mono hj hji);obtain ⟨hjun,oj,hoj,hall⟩:=mem_ready.1 hj;have hnot:∀ e∈oj.after,Region.binds .any e=true→e.on≠i:=fun e he hb heq=>by
        have h1:=hall e he hb;rw [heq,unlisted hun] at h1;cases h1
      have h2:=wpOp_lateF hoj (hfree j oj hoj hji hjun hnot) (fun cs b=>hsel i oi cs b hi) (fun cs b=>hsel j oj cs b hoj) hQ hy h1;refine wpOp_mono (fun a' w' h3=>ih (listed.setIfInBounds j true) a' w' (by simpa using hsz) (fun k ok hk hki hu hno=>?_) (ready_mono hr (Ne.symm hji)) h3.1 ?_) h2
      · refine hfree k ok hk hki ?_ hno;by_cases hjk:j=k
        · subst hjk;exact hjun
        · rw [getD_set_ne true hjk] at hu;exact hu
      · rw [Array.setIfInBounds_comm _ _ hji];exact h3.2
section
variable {n st:Nat} {K:List Deferred→Env→World→Prop} {D:List Deferred} {E:Env} {w:World}
theorem LAC.takeY {fuel:Nat} {listed:Array Bool} {i d:Nat} {o:Oper} {v:Value}
    (ho:ops[i]? = some o) (hod:o.dst=some d) (hs:Region.noSelect ops=true) (hf:Region.free .any ops listed i=true) (hr:(Region.ready .any ops listed).contains i=true) (hz:Nat.ble listed.size st=true)
    (hx:∀ a,Fr D n a E→YF P ops C o v a) (hd:Nat.blt d n=true) (k:LAC P n ops C st K fuel (listed.setIfInBounds i true) D (upd E d v) w):LAC P n ops C st K (fuel+1) listed D E w:=by
  intro a ha;refine wpAnyC.takeF ho (Region.noSelect_spec hs) ?_ fuel listed a w (Nat.le_of_ble_eq_true hz) (Region.free_spec ho hf) (by simpa using hr) (hx a ha) ?_
  · rintro c a w ⟨_,E,_,h,_⟩;cases h
  · rw [hod];exact k _ (ha.put v hd)
theorem LAC.takeN {fuel:Nat} {listed:Array Bool} {i d:Nat} {op:Op} {t:TypeId} {p:String} {af:Array Edge} {v:Value}
    (ho:ops[i]? = some ⟨some d,op,t,p,af,none⟩) (hs:Region.noSelect ops=true) (hf:Region.free .any ops listed i=true) (hr:(Region.ready .any ops listed).contains i=true) (hz:Nat.ble listed.size st=true)
    (hx:∀ w,C w→X P op t E w v w) (hd:Nat.blt d n=true) (k:LAC P n ops C st K fuel (listed.setIfInBounds i true) D (upd E d v) w):LAC P n ops C st K (fuel+1) listed D E w:=
  LAC.takeY ho rfl hs hf hr hz (fun a ha=>.inl ⟨by simp [Region.wanted],fun w hw=>by
    have:=hx w hw;unfold X at this;rw [execOp_bare,ha.eval];exact this⟩) hd k
theorem LAC.takeG {fuel:Nat} {listed:Array Bool} {i d j dj:Nat} {op:Op} {t:TypeId} {p:String} {af:Array Edge} {v:Value} {want b:Bool}
    (ho:ops[i]? = some ⟨some d,op,t,p,af,some (j,want)⟩) (hs:Region.noSelect ops=true) (hf:Region.free .any ops listed i=true) (hr:(Region.ready .any ops listed).contains i=true) (hz:Nat.ble listed.size st=true)
    (hj:(ops[j]?).bind (·.dst)=some dj) (hE:E dj=.bool b) (hb:b=want)
    (hx:∀ w,C w→X P op t E w v w) (hd:Nat.blt d n=true) (k:LAC P n ops C st K fuel (listed.setIfInBounds i true) D (upd E d v) w):LAC P n ops C st K (fuel+1) listed D E w:=
  LAC.takeY ho rfl hs hf hr hz (fun a ha=>.inl ⟨wanted_yes rfl hj ha (hb ▸ hE),fun w hw=>by
    have:=hx w hw;unfold X at this;rw [execOp_bare,ha.eval];exact this⟩) hd k
theorem LAC.takeU {fuel:Nat} {listed:Array Bool} {i d j dj:Nat} {op:Op} {t:TypeId} {p:String} {af:Array Edge} {want b:Bool}
    (ho:ops[i]? = some ⟨some d,op,t,p,af,some (j,want)⟩) (hs:Region.noSelect ops=true) (hf:Region.free .any ops listed i=true) (hr:(Region.ready .any ops listed).contains i=true) (hz:Nat.ble listed.size st=true)
    (hj:(ops[j]?).bind (·.dst)=some dj) (hE:E dj=.bool b) (hb:b=!want)
    (hd:Nat.blt d n=true) (k:LAC P n ops C st K fuel (listed.setIfInBounds i true) D (upd E d undef) w):LAC P n ops C st K (fuel+1) listed D E w:=
  LAC.takeY ho rfl hs hf hr hz (fun _ ha=>.inr ⟨wanted_no rfl hj ha hE hb,rfl⟩) hd k
theorem LAC.split {fuel:Nat} {listed:Array Bool} {dj:Nat} {b:Bool} (_hE:E dj=.bool b) (ht:b=true→LAC P n ops C st K fuel listed D E w) (hf:b=false→LAC P n ops C st K fuel listed D E w):LAC P n ops C st K fuel listed D E w:=by
  cases b
  · exact hf rfl
  · exact ht rfl
theorem LAC.doneF {listed:Array Bool} (hr:Region.ready .any ops listed=[]) (hC:C w) (h:K D E w):LAC P n ops C st K 0 listed D E w:=
  fun _ ha=>⟨fun _=>hC,hr,lift_mk (by simp) ha ⟨rfl,h⟩⟩
theorem W.drawF {id:Nat} {l:List Oper} {Q:Post} (st:Nat) (hm:P.follows .mixedOrders=true) (h:∀ w1,Bel w w1→LAC P n l.toArray (Bel w) st (Q .normal) l.length (Array.replicate l.length false) D E w1):W P n (.region id l.toArray true) Q D E w:=
  W.drawT (Bel w) st hm (h _ (bel_drew _))
end
end Go.Gx
