/- Sort: a type that is right is put in its order, any other stays. Conditions: none. -/
import Derived.WideMake
import Derived.MapKept
import Derived.DeepKeys3
import Derived.Maps.RangeRun
import Derived.Laws.Externs
import Derived.RangeFuncSeq
import Derived.Test.YtjhcicmlpnkgeaaCeSort2
import Derived.Test.YtjhcicmlpnkgeaaCeOwn
import Derived.Test.YtjhcicmlpnkgeaaCeSort1
namespace Go.Gx
open Go.Proofs
theorem ksort3_ag25:aggT Try.prog 25 5=true:=by kernel_rfl
theorem ksort3_en15:Go.Proofs.Enters Try.prog 15:=Go.Proofs.enters_of Try.func15 kr_ rfl
theorem ksort3_en34:Go.Proofs.Enters Try.prog 34:=Go.Proofs.enters_of Try.func34 kr_ rfl
theorem ksort3_zr25:(Try.prog.info? 25).bind (·.zero)=some (Value.agg [Value.int .i64 0,S [],S [],Value.slice none 0 0,Value.slice none 0 0].toArray):=by kernel_rfl
theorem check_zero {s:Sh} (h:checkS s=0):s.size≤400∧s.deep≤40∧s.allB fitsS=true:=by
  unfold checkS at h;split at h
  · cases h
  · split at h
    · cases h
    · split at h
      · cases h
      · next h1 h2 h3=>exact ⟨by omega,by omega,by simpa using h3⟩
def sortS (s:Sh):Sh:=if checkS s=0 then s.sort else s
theorem sort_okL (A:Nat→Prop) (s:Sh) (cs:List Value) (w:World) (hs:ShC A w cs s):
    Ret Try.prog 19 #[.agg cs.toArray] w fun v w'=>∃ cs',v=.agg cs'.toArray∧ShC (fun k=>A k∧k<w.heap.size) w' cs' (sortS s)∧Bel w w':=by
  obtain ⟨A1,hs,hA1,hU⟩:∃ A1:Nat→Prop,ShC A1 w cs s∧(∀ k,A k→A1 k)∧(∀ k,w.heap.size≤k→A1 k):=⟨_,hs.up,fun _=>.inl,fun _=>.inr⟩;have hlen:=hs.len;refine ret_of_W_R Try.func19 rfl (Nat.le_of_ble_eq_true rfl) ?_;have hB:=Gr.refl (fun _=>False) w;refine W.seq (W.region (L.box (cs:=cs) rfl rfl (fun w1 bx1 hw hz1=>?_)));have hB:=hB.carry hw;have hs:=hs.carry hw;refine L.alloc (cs:=[Value.int .i64 0,S [],S [],Value.slice none 0 0,Value.slice none 0 0]) ksort3_zr25 rfl rfl (fun w2 bx2 hw hz2=>?_);have hB:=hB.carry hw;have hs:=hs.carry hw;have bx1:=bx1.carry hw;refine L.nil (thn_n (W.seq (W.seq (W.region (L.val (x_ldn (vs:=cs) ksort3_ag25 rfl hlen (bx1.row hlen)) rfl ?_)))));refine L.ret (x_call ksort3_en15 rfl) rfl (checkL A1 s _ _ hs) ?_;rintro _ w4 ⟨rfl,hw⟩;have hB:=hB.carry hw;have hs:=hs.carry hw;have bx1:=bx1.carry hw;have bx2:=bx2.carry hw;refine L.val (x_neq rfl rfl) rfl ?_;refine L.nil (thn_n (W.cond (b:=_) rfl (fun g5=>?_) (fun g5=>?_)))
  ·have h5:=dne_t g5;refine W.seq (W.region (L.val (x_ldn (vs:=cs) ksort3_ag25 rfl hlen (bx1.row hlen)) rfl ?_));refine L.setRow ksort3_ag25 rfl rfl bx2 rfl hlen hs.one (fun wl7 bx2 hw hzl7=>?_);have hsz:=hB.size;have hB:=hB.set hw om_;have hs:=hs.carryR hw (fun k e=>hU k (by have:k=_:=e;omega));have bx1:=bx1.carryR hw om_;refine L.nil (thn_n (W.ret (thn_r (finR_mk (.inr rfl) ?_))));refine ⟨_,resS rfl ksort3_ag25 rfl bx2 hlen,_,rfl,?_,hB⟩;rw [sortS,if_neg h5];exact hs.mono (fun j _ h=>hA1 j h.1)
  ·have h5:=dne_f g5;refine W.skip (thn_n (W.seq (W.region (L.val (x_ldn (vs:=cs) ksort3_ag25 rfl hlen (bx1.row hlen)) rfl ?_))));have hbc:=hB.size;have hb2:=bx2.lt;refine L.ret (x_call ksort3_en34 rfl) rfl (sorted0 _ s (Nat.lt_succ_self _) (check_zero h5).1 (check_zero h5).2.2 A1 _ _ hs) ?_;rintro _ w8 ⟨cs8,rfl,ht,hw⟩;have hB:=hB.carry hw;have hs:=hs.carry hw;have bx1:=bx1.carry hw;have bx2:=bx2.carry hw;refine L.setRow ksort3_ag25 rfl rfl bx2 rfl ht.len ht.one (fun wl10 bx2 hw hzl10=>?_);have hsz:=hB.size;have hB:=hB.set hw om_;have hs:=hs.carryR hw (fun k e=>hU k (by have:k=_:=e;omega));have bx1:=bx1.carryR hw om_;have ht:=ht.carryR hw (fun k e=>by have e:k=w1.heap.size:=e;show k<_;omega);refine L.nil (thn_n (W.ret (finR_mk (.inr rfl) ?_)));refine ⟨_,resS rfl ksort3_ag25 rfl bx2 ht.len,_,rfl,?_,hB⟩;rw [sortS,if_pos h5];exact ht.mono (fun j _ h=>by show j<_;omega)
end Go.Gx
namespace Go.Gx
open Go.Proofs
def idxS (x:Str):List Str→Nat
  | []=>0
  | y :: l=>if y=x then 0 else idxS x l+1
end Go.Gx
namespace Go.Gx
open Go.Proofs
variable {P:Program} {n:Nat} {Q:Post} {D:List Deferred} {E:Env} {w:World}
def kvM (e:MapEntry):Value × Value:=(e.key,e.val)
def MapIs (es:Array MapEntry) (clock:Nat) (l:List (Str × Value)):Prop:=es.toList.map kvM=l.map (fun x=>(S x.1,x.2))∧(es.toList.map (·.born)).Nodup∧∀ n∈es.toList.map (·.born),n<clock
def MapAt (w:World) (b:Nat) (l:List (Str × Value)):Prop:=∃ es clock,w.heap[b]? = some (.map es clock)∧MapIs es clock l
theorem MapAt.lt {b:Nat} {l:List (Str × Value)} (h:MapAt w b l):b<w.heap.size:=by
  obtain ⟨es,c,h,-⟩:=h;exact (Array.getElem?_eq_some_iff.1 h).1
theorem MapAt.carryR {R:Nat→Prop} {w':World} {b:Nat} {l:List (Str × Value)} (h:MapAt w b l) (g:Gr R w w') (hn:¬ R b):MapAt w' b l:=by
  have hlt:=h.lt;obtain ⟨es,c,h,hm⟩:=h;exact ⟨es,c,(g.block b hlt hn).trans h,hm⟩
theorem MapAt.carry {w':World} {b:Nat} {l:List (Str × Value)} (h:MapAt w b l) (g:Bel w w'):MapAt w' b l:=h.carryR g fun f=>f
theorem S_inj {a b:Str} (h:S a=S b):a=b:=by
  unfold S at h;injection h with h
  injection h with h
  simpa using congrArg Array.toList h
section
variable {t kt et:TypeId}
theorem born_modify {es:List MapEntry} {i:Nat} {k v:Value}:(es.modify i fun e=>{ e with key:=k,val:=v }).map (·.born)=es.map (·.born):=by
  induction es generalizing i with
  | nil=>simp
  | cons e es ih=>
    cases i with
    | zero=>simp
    | succ i=>simp only [List.modify_succ_cons,List.map_cons,ih]
end
def fieldsF:Nat→List Str→List (Str × Value)
  | _,[]=>[]
  | n,x :: l=>(x,.int .i64 (n:Nat)) :: fieldsF (n+1) l
def FieldsAt (w:World) (b:Nat) (l:List Str):Prop:=MapAt w b (fieldsF 0 l)
theorem FieldsAt.carryR {R:Nat→Prop} {w':World} {b:Nat} {l:List Str} (h:FieldsAt w b l) (g:Gr R w w') (hn:¬ R b):FieldsAt w' b l:=MapAt.carryR h g hn
theorem FieldsAt.carry {w':World} {b:Nat} {l:List Str} (h:FieldsAt w b l) (g:Bel w w'):FieldsAt w' b l:=MapAt.carry h g
theorem FieldsAt.lt {b:Nat} {l:List Str} (h:FieldsAt w b l):b<w.heap.size:=MapAt.lt h
end Go.Gx
namespace Go.Gx
open Go.Proofs
variable {P:Program} {n:Nat} {Q:Post} {D:List Deferred} {E:Env} {w:World}
variable {κ : Type} [DecidableEq κ]
def idxK (x:κ):List (κ × Value)→Nat
  | []=>0
  | y :: l=>if y.1=x then 0 else idxK x l+1
def valK (l:List (κ × Value)) (i:Nat):Value:=(l.map (·.2)).getD i undef
def putK (l:List (κ × Value)) (x:κ) (v:Value):List (κ × Value):=if idxK x l<l.length then l.set (idxK x l) (x,v) else l++[(x,v)]
structure KLaw (P:Program) (kt:TypeId) (K:κ → Value) (V:κ → Prop):Prop where
  check:∀ (e:Bool) (x:κ) (w:World),V x→(Instr.checkKey e 10000 kt (K x)).run P w=.ok () w
  find:∀ (x:κ) (es:List MapEntry) (l:List (κ × Value)) (w:World),V x→(∀ y∈l,V y.1)→(l.map (·.1)).Nodup→es.map kvM=l.map (fun y=>(K y.1,y.2))→
    (Instr.findKey kt (K x) es).run P w=.ok (if idxK x l<l.length then some (idxK x l,valK l (idxK x l)) else none) w
  stays:∀ (x:κ) (w:World),V x→(Instr.keyThatStays (K x) (K x)).run P w=.ok (K x) w
variable {K:κ → Value} {V:κ → Prop}
def MapIsK (K:κ → Value) (V:κ → Prop) (es:Array MapEntry) (clock:Nat) (l:List (κ × Value)):Prop:=
  es.toList.map kvM=l.map (fun x=>(K x.1,x.2))∧(es.toList.map (·.born)).Nodup∧(∀ n∈es.toList.map (·.born),n<clock)∧(∀ y∈l,V y.1)∧(l.map (·.1)).Nodup
def MapAtK (K:κ → Value) (V:κ → Prop) (w:World) (b:Nat) (l:List (κ × Value)):Prop:=∃ es clock,w.heap[b]? = some (.map es clock)∧MapIsK K V es clock l
omit [DecidableEq κ] in
theorem MapAtK.lt {b:Nat} {l:List (κ × Value)} (h:MapAtK K V w b l):b<w.heap.size:=by
  obtain ⟨es,c,h,-⟩:=h;exact (Array.getElem?_eq_some_iff.1 h).1
omit [DecidableEq κ] in
theorem MapAtK.carryR {R:Nat→Prop} {w':World} {b:Nat} {l:List (κ × Value)} (h:MapAtK K V w b l) (g:Gr R w w') (hn:¬ R b):MapAtK K V w' b l:=by
  have hlt:=h.lt;obtain ⟨es,c,h,hm⟩:=h;exact ⟨es,c,(g.block b hlt hn).trans h,hm⟩
omit [DecidableEq κ] in
theorem MapAtK.carry {w':World} {b:Nat} {l:List (κ × Value)} (h:MapAtK K V w b l) (g:Bel w w'):MapAtK K V w' b l:=h.carryR g fun f=>f
theorem idxK_spec {x:κ}:∀ {l:List (κ × Value)},(idxK x l<l.length∧(l[idxK x l]?).map (·.1)=some x∧∀ j,j<idxK x l→(l[j]?).map (·.1)≠some x)∨(idxK x l=l.length∧∀ y∈l,y.1≠x)
  | []=>.inr ⟨rfl,by simp⟩
  | y :: l=>by
    by_cases hy:y.1=x
    · refine .inl ⟨by simp [idxK,hy],by simp [idxK,hy],fun j hj=>?_⟩;rw [idxK,if_pos hy] at hj;omega
    · rcases idxK_spec (x:=x) (l:=l) with ⟨h1,h2,h3⟩ | ⟨h1,h2⟩
      · refine .inl ⟨by simp [idxK,hy,h1],by simpa [idxK,hy] using h2,fun j hj=>?_⟩;cases j with
        | zero=>simpa using hy
        | succ j=>simpa using h3 j (by rw [idxK,if_neg hy] at hj;omega)
      · refine .inr ⟨by simp [idxK,hy,h1],fun z hz=>?_⟩;rcases List.mem_cons.1 hz with rfl | hz
        · exact hy
        · exact h2 z hz
theorem idxK_key {x:κ} {l:List (κ × Value)} (h:idxK x l<l.length):(l[idxK x l]).1=x:=by
  rcases idxK_spec (x:=x) (l:=l) with ⟨h1,h2,-⟩ | ⟨h1,-⟩
  · rw [List.getElem?_eq_getElem h1] at h2;simpa using h2
  · omega
theorem idxK_mem {x:κ} {l:List (κ × Value)}:idxK x l<l.length↔x∈l.map (·.1):=by
  rcases idxK_spec (x:=x) (l:=l) with ⟨h1,h2,-⟩ | ⟨h1,h2⟩
  · refine ⟨fun _=>?_,fun _=>h1⟩;obtain ⟨y,hy,e⟩:=Option.map_eq_some_iff.1 h2;exact List.mem_map.2 ⟨y,List.mem_of_getElem? hy,e⟩
  · refine ⟨fun h=>by omega,fun h=>?_⟩;obtain ⟨y,hy,e⟩:=List.mem_map.1 h;exact absurd e (h2 y hy)
theorem putK_keys {l:List (κ × Value)} {x:κ} {v:Value}:(putK l x v).map (·.1)=if x∈l.map (·.1) then l.map (·.1) else l.map (·.1)++[x]:=by
  unfold putK;by_cases h:idxK x l<l.length
  · rw [if_pos h,if_pos (idxK_mem.1 h)];apply List.ext_getElem?;intro j;rw [List.getElem?_map,List.getElem?_map,List.getElem?_set];by_cases hj:idxK x l=j
    · subst hj;rw [if_pos rfl,if_pos h,List.getElem?_eq_getElem h];simp [idxK_key h]
    · rw [if_neg hj]
  · rw [if_neg h,if_neg (fun e=>h (idxK_mem.2 e))];simp
theorem putK_nodup {l:List (κ × Value)} {x:κ} {v:Value} (h:(l.map (·.1)).Nodup):((putK l x v).map (·.1)).Nodup:=by
  rw [putK_keys];split
  · exact h
  · next hx=>exact List.nodup_append.2 ⟨h,by simp,fun a ha b hb e=>by simp at hb;subst hb;subst e;exact hx ha⟩
theorem putK_valid {l:List (κ × Value)} {x:κ} {v:Value} (h:∀ y∈l,V y.1) (hx:V x):∀ y∈putK l x v,V y.1:=by
  intro y hy;have hk:y.1∈(putK l x v).map (·.1):=List.mem_map_of_mem hy;rw [putK_keys] at hk;split at hk
  · obtain ⟨z,hz,e⟩:=List.mem_map.1 hk;rw [← e];exact h z hz
  · rcases List.mem_append.1 hk with hk | hk
    · obtain ⟨z,hz,e⟩:=List.mem_map.1 hk;rw [← e];exact h z hz
    · simp at hk;rw [hk];exact hx
theorem idxK_congr {y:κ}:∀ {l m:List (κ × Value)},l.map (·.1)=m.map (·.1)→idxK y l=idxK y m
  | [],[],_=>rfl
  | [],_ :: _,h=>by simp at h
  | _ :: _,[],h=>by simp at h
  | a :: l,b :: m,h=>by
    simp only [List.map_cons,List.cons.injEq] at h;rw [idxK,idxK,h.1,idxK_congr h.2]
theorem idxK_snoc {y:κ} {x:κ × Value}:∀ {l:List (κ × Value)},idxK y (l++[x])=if idxK y l<l.length then idxK y l else if x.1=y then l.length else l.length+1
  | []=>by simp [idxK]
  | a :: l=>by
    rw [List.cons_append,idxK,idxK];by_cases h:a.1=y
    · simp [h]
    · rw [if_neg h,if_neg h,idxK_snoc (l:=l)];simp only [List.length_cons];by_cases h2:idxK y l<l.length
      · rw [if_pos h2,if_pos (show idxK y l+1<l.length+1 by omega)]
      · rw [if_neg h2,if_neg (show ¬ idxK y l+1<l.length+1 by omega)];split <;> rfl
omit [DecidableEq κ] in
theorem valK_at {l:List (κ × Value)} {i:Nat} (h:i<l.length):valK l i=l[i].2:=by
  unfold valK;rw [List.getD_eq_getElem?_getD,List.getElem?_map,List.getElem?_eq_getElem h];rfl
def getK (l:List (κ × Value)) (x:κ):Option Value:=if idxK x l<l.length then some (valK l (idxK x l)) else none
theorem getK_put {l:List (κ × Value)} {x y:κ} {v:Value}:getK (putK l x v) y=if y=x then some v else getK l y:=by
  unfold getK putK;by_cases h:idxK x l<l.length
  · rw [if_pos h];have e:idxK y (l.set (idxK x l) (x,v))=idxK y l:=idxK_congr (by
      apply List.ext_getElem?;intro j;rw [List.getElem?_map,List.getElem?_map,List.getElem?_set];by_cases hj:idxK x l=j
      · subst hj;rw [if_pos rfl,if_pos h,List.getElem?_eq_getElem h];simp [idxK_key h]
      · rw [if_neg hj])
    rw [e,List.length_set];by_cases hy:y=x
    · subst hy;rw [if_pos h,if_pos rfl,valK_at (by simpa using h)];simp
    · rw [if_neg hy];by_cases h2:idxK y l<l.length
      · have hne:idxK x l≠idxK y l:=fun e=>hy (by have h3:=idxK_key h2;have h4:=idxK_key h;simp only [e] at h4;rw [← h3,h4])
        rw [if_pos h2,if_pos h2,valK_at (by simpa using h2),valK_at h2];simp [hne]
      · rw [if_neg h2,if_neg h2]
  · rw [if_neg h,idxK_snoc,List.length_append,List.length_singleton];by_cases h2:idxK y l<l.length
    · have hy:y≠x:=fun e=>h (e ▸ h2)
      rw [if_pos h2,if_pos om_,if_neg hy,if_pos h2,valK_at (by simp;omega),valK_at h2,List.getElem_append_left h2]
    · rw [if_neg h2];by_cases hy:y=x
      · subst hy;rw [if_pos rfl,if_pos om_,if_pos rfl,valK_at (by simp)];simp
      · have hy2:¬ (x,v).1=y:=fun e=>hy e.symm
        rw [if_neg hy2,if_neg om_,if_neg hy,if_neg h2]
theorem klaw_of {kt:TypeId} (L:WideMaps.KeyLaw P kt) (hK:∀ x,V x→∃ l,keyOf P kt (K x)=some l) (hinj:∀ {a b:κ},K a=K b→a=b):KLaw P kt K V where
  check:=fun e x w hx=>by obtain ⟨l,h⟩:=hK x hx;exact L.check w e h
  stays:=fun x w hx=>by obtain ⟨l,h⟩:=hK x hx;exact L.stays w h
  find:=fun x es l w hx hl hn he=>by
    obtain ⟨lx,hlx⟩:=hK x hx;have hkey:∀ j (h:j<es.length) (h2:j<l.length),es[j].key=K l[j].1∧es[j].val=l[j].2:=fun j h h2=>by
      have:=congrArg (fun q:List (Value × Value)=>q[j]?) he;simp only [List.getElem?_map,List.getElem?_eq_getElem h,List.getElem?_eq_getElem h2,Option.map_some,Option.some.injEq,kvM,Prod.mk.injEq] at this;exact this
    have hlen:es.length=l.length:=by simpa using congrArg List.length he
    have hall:∀ e∈es,∃ l,keyOf P kt e.key=some l:=fun e h=>by
      obtain ⟨j,hj,rfl⟩:=List.getElem_of_mem h;rw [(hkey j hj om_).1];exact hK _ (hl _ (List.getElem_mem _))
    rcases L.find w hlx es hall with ⟨h1,h2⟩ | ⟨j,e,h1,h2,h3⟩
    · rw [h1,if_neg];intro hi;exact h2 _ (List.getElem_mem (by omega:idxK x l<es.length)) (by rw [(hkey _ om_ hi).1,idxK_key hi])
    · obtain ⟨hj,rfl⟩:=List.getElem?_eq_some_iff.1 h2;have hx':l[j].1=x:=hinj (by rw [← (hkey j hj om_).1,h3]);have hi:idxK x l<l.length:=idxK_mem.2 (hx' ▸ List.mem_map_of_mem (List.getElem_mem _));have hij:idxK x l=j:=by
        have h4:=idxK_key hi;have h5:=List.pairwise_iff_getElem.1 hn;rcases Nat.lt_trichotomy (idxK x l) j with h | h | h
        · exact (h5 _ _ (by simpa using hi) (by simp;omega) h (by simp [h4,hx'])).elim
        · exact h
        · exact (h5 _ _ (by simp;omega) (by simpa using hi) h (by simp [h4,hx'])).elim
      rw [h1,if_pos hi,hij];have hv:valK l j=(es[j]).val:=by rw [(hkey j hj om_).2,valK_at]
      rw [hv]
section
variable {t kt et:TypeId}
theorem x_lookK {m x:Operand} {ty:TypeId} {b:Nat} {l:List (κ × Value)} {k:κ} {z:Value} (hm:P.underlying t=some (.map kt et)) (hk:KLaw P kt K V) (hz:(P.info? et).bind (·.zero)=some z)
    (hx:ev E m=.map (some b)) (hy:ev E x=K k) (hV:V k) (hl:MapAtK K V w b l):X P (.lookup t m x true) ty E w (.tuple #[if idxK k l<l.length then valK l (idxK k l) else z,.bool (decide (idxK k l<l.length))]) w:=by
  obtain ⟨es,c,hb,hes,-,-,hval,hnd⟩:=hl;have hf:=hk.find k es.toList l w hV hval hnd hes;have hzr:∀ w,(zeroValue et).run P w=.ok z w:=fun w=>by
    cases hi:P.info? et with
    | none=>simp [hi] at hz
    | some i=>
      simp [hi] at hz;simp [zeroValue,typeInfo,hi,hz]
  unfold X;by_cases h:idxK k l<l.length
  · rw [if_pos h] at hf;simp [execOp,hx,hy,Instr.lookup,run_underlying hm,MapKept.run_getObj_map hb,hk.check _ k w hV,hf,h,Result.andThen]
  · rw [if_neg h] at hf;simp [execOp,hx,hy,Instr.lookup,run_underlying hm,MapKept.run_getObj_map hb,hk.check _ k w hV,hf,h,hzr,Result.andThen]
omit [DecidableEq κ] in
theorem L.mkmapK {t kt et ty:TypeId} {ops:Array Oper} {r:List Oper} {d:Nat} {p:String} {af:Array Edge} (_hm:P.underlying t=some (.map kt et)) (hd:Nat.blt d n=true)
    (kk:∀ w1,MapAtK K V w1 w.heap.size []→Bel w w1→w1.heap.size=w.heap.size+1→L P n ops Q r D (upd E d (.map (some w.heap.size))) w1):
    L P n ops Q (⟨some d,.makeMap t none,ty,p,af,none⟩ :: r) D E w:=by
  have hX:X P (.makeMap t none) ty E w (.map (some w.heap.size)) (w.alloc (.map #[] 0)):=by
    unfold X;simp [execOp,Instr.makeMap,Result.andThen]
  refine L.val hX hd (kk _ ⟨#[],0,by rw [← World.alloc_eq];simp,rfl,by simp,by simp,by simp,by simp⟩ (gr_of (row:=none) (World.grownBy_alloc w _ none) |>.mono (fun _ _ h=>by cases h)) (by simp))
omit [DecidableEq κ] in
theorem set_kvK {es:List MapEntry} {l:List (κ × Value)} {i:Nat} {x:κ} {v:Value} (h:es.map kvM=l.map fun x=>(K x.1,x.2)):
    (es.modify i fun e=>{ e with key:=K x,val:=v }).map kvM=(l.set i (x,v)).map fun x=>(K x.1,x.2):=by
  induction es generalizing l i with
  | nil=>cases l with
    | nil=>simp
    | cons=>simp at h
  | cons e es ih=>cases l with
    | nil=>simp at h
    | cons y l=>
      simp only [List.map_cons,List.cons.injEq] at h;cases i with
      | zero=>simp [kvM,h.2]
      | succ i=>simp only [List.modify_succ_cons,List.set_cons_succ,List.map_cons,h.1,ih h.2]
theorem L.mapsetK {t kt et ty:TypeId} {ops:Array Oper} {r:List Oper} {m x y:Operand} {p:String} {af:Array Edge} {b:Nat} {l:List (κ × Value)} {k:κ} {v:Value} (hm:P.underlying t=some (.map kt et)) (hk:KLaw P kt K V)
    (hx:ev E m=.map (some b)) (hy:ev E x=K k) (hV:V k) (hv:ev E y=v) (hl:MapAtK K V w b l)
    (kk:∀ w1,MapAtK K V w1 b (putK l k v)→Gr (· = b) w w1→w1.heap.size=w.heap.size→L P n ops Q r D E w1):
    L P n ops Q (⟨none,.mapUpdate t m x y,ty,p,af,none⟩ :: r) D E w:=by
  have hlt:=hl.lt;obtain ⟨es,c,hb,hes,hn,hc,hval,hnd⟩:=hl;have hf:=hk.find k es.toList l w hV hval hnd hes;have hkeep:∀ w o,Gr (· = b) w { w with heap:=w.heap.setIfInBounds b o }:=fun w o=>
    ⟨rfl,rfl,rfl,by simp,fun i _ hi=>by simp [Ne.symm hi]⟩
  by_cases h:idxK k l<l.length
  · rw [if_pos h] at hf;have hkey:((es[idxK k l]?).map (·.key)).getD (K k)=K k:=by
      have hg:=congrArg (fun q:List (Value × Value)=>q[idxK k l]?) hes;simp only [List.getElem?_map] at hg;rw [List.getElem?_eq_getElem h] at hg;have hes2:es[idxK k l]? = es.toList[idxK k l]? := by simp
      rw [hes2];cases hq:es.toList[idxK k l]? with
      | none=>simp
      | some e=>
        rw [hq] at hg;simp only [Option.map_some,Option.some.injEq,kvM,Prod.mk.injEq] at hg;simp only [Option.map_some,Option.getD_some,hg.1,idxK_key h]
    refine L.skip (w':={ w with heap:=w.heap.setIfInBounds b (.map (es.modify (idxK k l) fun e=>{ e with key:=K k,val:=v }) c) }) ?_ (kk _ ⟨es.modify (idxK k l) fun e=>{ e with key:=K k,val:=v },c,by simp [hlt],?_,by rw [Array.toList_modify,born_modify];exact hn,by rw [Array.toList_modify,born_modify];exact hc,putK_valid hval hV,putK_nodup hnd⟩ (hkeep _ _) (by simp))
    · unfold Xs;simp [execOp,hx,hy,hv,Instr.mapUpdate,run_underlying hm,MapKept.run_getObj_map hb,hk.check _ k w hV,hf,hkey,hk.stays k w hV,MapKept.run_setObj_map _ hb,Result.andThen]
    · unfold putK;rw [if_pos h,Array.toList_modify];exact set_kvK hes
  · rw [if_neg h] at hf;refine L.skip (w':={ w with heap:=w.heap.setIfInBounds b (.map (es.push { key:=K k,val:=v,born:=c }) (c+1)) }) ?_ (kk _ ⟨es.push { key:=K k,val:=v,born:=c },c+1,by simp [hlt],?_,?_,?_,putK_valid hval hV,putK_nodup hnd⟩ (hkeep _ _) (by simp))
    · unfold Xs;simp [execOp,hx,hy,hv,Instr.mapUpdate,run_underlying hm,MapKept.run_getObj_map hb,hk.check _ k w hV,hf,MapKept.run_setObj_map _ hb,Result.andThen]
    · unfold putK;rw [if_neg h,Array.toList_push,List.map_append,hes];simp [kvM]
    · rw [Array.toList_push,List.map_append];refine List.nodup_append.2 ⟨hn,by simp,fun x hx y hy e=>?_⟩;have:=hc x hx;simp at hy;omega
    · rw [Array.toList_push,List.map_append];intro x hx;rcases List.mem_append.1 hx with hx | hx
      · have:=hc x hx;omega
      · simp at hx;omega
end
def K2 (x:Str × Str):Value:=.agg #[S x.1,S x.2]
def V2 (x:Str × Str):Prop:=x.1.length≤9223372036854775807∧x.2.length≤9223372036854775807
theorem K2_inj {a b:Str × Str} (h:K2 a=K2 b):a=b:=by
  unfold K2 at h;simp only [Value.agg.injEq] at h;have:=congrArg Array.toList h;simp at this;exact Prod.ext (S_inj this.1) (S_inj this.2)
theorem klaw2 {kt:TypeId} {f0 f1:Field} (hT:P.underlying kt=some (.struct #[f0,f1])) (h0:P.underlying f0.type=some .string) (h1:P.underlying f1.type=some .string) (o0:f0.offset=0) (o1:f1.offset=1)
    (hn:(f0.name != "_" && f1.name != "_")=true) (c:P.cellsOf kt=2∧P.cellsOf f0.type=1∧P.cellsOf f1.type=1) (hk:P.keyTypeAt 2 kt=true) (hkt:P.keyType kt=true) (ht:P.tiled 2 kt=true) (hsz:1≤P.types.size):KLaw P kt K2 V2:=by
  refine klaw_of (deep_law (m:=2) om_ hk ht (by rw [hT])) (fun x hx=>?_) K2_inj;obtain ⟨a,b⟩:=x;obtain ⟨ha,hb⟩:=hx;simp only [Bool.and_eq_true] at hn;have hs:∀ a:Str,a.length≤9223372036854775807→(⟨a.toArray⟩:ByteArray).size≤maxLen:=fun a h=>by rw [S_size];exact h
  obtain ⟨d,hd⟩:∃ d,P.types.size=d+1:=⟨P.types.size - 1,by omega⟩;have k0:P.keyLits (d+1) f0.type [S a]=some [.string a]:=by
    unfold Program.keyLits;rw [h0];simp only [S];rw [if_pos (hs a ha)]
  have k1:P.keyLits (d+1) f1.type [S b]=some [.string b]:=by
    unfold Program.keyLits;rw [h1];simp only [S];rw [if_pos (hs b hb)]
  have k2:P.keyLits (d+1+1) kt [S a,S b]=some [.string a,.string b]:=by
    unfold Program.keyLits;rw [hT];simp [c.1,hn.1,hn.2,o0,o1,c.2.1,c.2.2,k0,k1]
  have hf:(K2 (a,b)).formed P kt=true:=by simp [K2,Value.formed,hT,c.1]
  refine ⟨.string (keyBytes [.string a,.string b]),?_⟩;unfold keyOf;rw [hT];simp only [hkt,hf,Bool.and_self,if_true];rw [hd];show (P.keyLits (d+1+1) kt [S a,S b]).map _=_;rw [k2];rfl
end Go.Gx
namespace Go.Gx
open Go.Proofs
variable {P:Program} {n:Nat} {Q:Post} {D:List Deferred} {E:Env} {w:World}
def unS:Value→Str
  | .string b=>b.data.toList
  | _=>[]
def decM (e:MapEntry):Str × Value:=(unS e.key,e.val)
def IterAt (w:World) (r b:Nat) (l vis:List (Str × Value)):Prop:=
  ∃ es clock sb,∃ ds:List MapEntry,w.heap[b]? = some (.map es clock)∧MapIs es clock l∧w.heap[r]? = some (.mapIter (some b) clock sb clock)∧sb.toList=ds.map (·.born)∧(∀ d∈ds,d∈es.toList)∧(ds.map (·.born)).Nodup∧ds.map decM=vis
theorem IterAt.lt {r b:Nat} {l vis:List (Str × Value)} (h:IterAt w r b l vis):r<w.heap.size∧b<w.heap.size∧b≠r:=by
  obtain ⟨es,c,sb,ds,h1,-,h2,-⟩:=h;refine ⟨(Array.getElem?_eq_some_iff.1 h2).1,(Array.getElem?_eq_some_iff.1 h1).1,fun e=>?_⟩;rw [e,h2] at h1;cases h1
theorem IterAt.carryR {R:Nat→Prop} {w':World} {r b:Nat} {l vis:List (Str × Value)} (h:IterAt w r b l vis) (g:Gr R w w') (h1:¬ R r) (h2:¬ R b):IterAt w' r b l vis:=by
  obtain ⟨hr,hb,-⟩:=h.lt;obtain ⟨es,c,sb,ds,a1,a2,a3,a4⟩:=h;exact ⟨es,c,sb,ds,(g.block b hb h2).trans a1,a2,(g.block r hr h1).trans a3,a4⟩
theorem IterAt.carry {w':World} {r b:Nat} {l vis:List (Str × Value)} (h:IterAt w r b l vis) (g:Bel w w'):IterAt w' r b l vis:=h.carryR g (fun f=>f) (fun f=>f)
theorem IterAt.keep {w':World} {r b:Nat} {l vis:List (Str × Value)} (h:IterAt w r b l vis) (g:KeepsWalks w w'):IterAt w' r b l vis:=by
  obtain ⟨hr,hb,-⟩:=h.lt;obtain ⟨es,c,sb,ds,a1,a2,a3,a4⟩:=h;exact ⟨es,c,sb,ds,g.same b _ a1 rfl,a2,g.same r _ a3 rfl,a4⟩
theorem x_eqlm {x y:Operand} {t u z k e:TypeId} {p:Option Nat} (hu:P.underlying u=some (.map k e)) (hx:ev E x=.map p) (hy:ev E y=.map none):X P (.binOp .eql u x y z) t E w (.bool p.isNone) w:=by
  unfold X;have h0:∀ d:Nat,(Op.equalIn (d+1) u (.map p) (.map none)).run P w=.ok p.isNone w:=fun d=>by cases p <;> simp [Op.equalIn,run_underlying hu]
  have h1:=h0 9999;have h2:(binOp .eql u (.map p) (.map none)).run P w=.ok (.bool p.isNone) w:=by
    simp only [binOp];simp [show Op.equal u (.map p) (.map none)=Op.equalIn (9999+1) u (.map p) (.map none) from rfl,h1]
  simp [execOp,hx,hy,eqGuard,h2]
end Go.Gx
namespace Go.Gx
open Go.Proofs
theorem Box.rowD {w:World} {b:Nat} {t:TypeId} {cs:List Value} (h:Box w b t cs) (o:Nat) {k:Nat} (hl:(cs.drop o).length=k):∀ j,j<k→w.cell? ⟨b,0+o+j,none⟩=(cs.drop o)[j]? := fun j hj=>by
  have hj':o+j<cs.length:=by rw [List.length_drop] at hl;omega
  rw [List.getElem?_drop,List.getElem?_eq_getElem hj',Nat.zero_add];exact h.cell (List.getElem?_eq_getElem hj')
theorem RecRow.rowD {α : Type} [Inhabited α] {C:Thing α} {k:Nat} {A:Nat→Prop} {w:World} {b o:Nat} {row:Nat→List Value} {l:List α} (h:RecRow C k A w (some ⟨b,o,none⟩) row l) {i:Nat} (hi:i<l.length) (off:Nat) {m:Nat} (hl:((row i).drop off).length=m):
    ∀ j,j<m→w.cell? ⟨b,o+i * k+off+j,none⟩=((row i).drop off)[j]? := fun j hj=>by
  have hj':off+j<(row i).length:=by rw [List.length_drop] at hl;omega
  rw [List.getElem?_drop,List.getElem?_eq_getElem hj',Nat.add_assoc];exact h.cell hi (List.getElem?_eq_getElem hj')
section
variable {P:Program} {n:Nat} {Q:Post} {D:List Deferred} {E:Env} {w:World}
theorem x_lookN {κ : Type} [DecidableEq κ] {K:κ → Value} {V:κ → Prop} {t kt et:TypeId} {m x:Operand} {ty:TypeId} {k:κ} {z:Value} (hm:P.underlying t=some (.map kt et)) (hk:KLaw P kt K V) (hz:(P.info? et).bind (·.zero)=some z)
    (hx:ev E m=.map none) (hy:ev E x=K k) (hV:V k):X P (.lookup t m x true) ty E w (.tuple #[z,.bool false]) w:=by
  have hf:=hk.find k [] [] w hV (by simp) (by simp) rfl;simp only [List.length_nil,Nat.not_lt_zero,if_false] at hf;have hzr:∀ w,(zeroValue et).run P w=.ok z w:=fun w=>by
    cases hi:P.info? et with
    | none=>simp [hi] at hz
    | some i=>
      simp [hi] at hz;simp [zeroValue,typeInfo,hi,hz]
  unfold X;simp [execOp,hx,hy,Instr.lookup,run_underlying hm,hk.check _ k w hV,hf,hzr,Result.andThen]
theorem L.mk0 {ops:Array Oper} {r:List Oper} {d:Nat} {x y:Operand} {s e t:TypeId} {p:String} {af:Array Edge} {sz c:Nat} {i:Int} (hu:P.underlying s=some (.slice e)) (he:elT P e sz=true)
    (hx:ev E x=.int .i64 0) (hy:ev E y=.int .i64 i) (hi:i=(c:Nat)) (hc:c≤400000000000) (hd:Nat.blt d n=true)
    (kk:∀ w1,Own w1 w.heap.size e sz (.slice (some ⟨w.heap.size,0,none⟩) 0 c) 0 []→Bel w w1→w1.heap.size=w.heap.size+1→L P n ops Q r D (upd E d (.slice (some ⟨w.heap.size,0,none⟩) 0 c)) w1):
    L P n ops Q (⟨some d,.makeSlice s x y,t,p,af,none⟩ :: r) D E w:=by
  obtain ⟨inf,z,hinf,hz,hs,hzs,hpos,hby⟩:=elT_spec he;subst hi;have hrun:=run_make (P:=P) w s e inf z hu hinf hz .i64 .i64 (0:Int) (c:Nat) om_ om_ (by have:(inf.bytes:Int) * (c:Int)≤200 * (c:Int):=Int.mul_le_mul_of_nonneg_right om_ om_;omega) om_;refine L.val (v:=.slice (some ⟨w.heap.size,0,none⟩) 0 c) (w':=w.alloc (.cells (madeCells z.cells (((c:Nat):Int).toNat * inf.size)) e)) ?_ hd (kk _ ⟨by simp,.inr ⟨w.heap.size,c,_,rfl,Nat.le_refl _,World.alloc_heap_new w _,Nat.zero_le _,by simp only [maxLen];omega,by simp [madeCells,hs],by simp⟩⟩ (bel_alloc _ _) (by simp));unfold X;simp only [execOp,Sem.run_bind,hx,hy,hrun];simp [Result.andThen]
theorem x_eql0 {x y:Operand} {t u z e:TypeId} {p:Option Addr} {m c m' c':Nat} (hu:P.underlying u=some (.slice e)) (hx:ev E x=.slice p m c) (hy:ev E y=.slice none m' c'):X P (.binOp .eql u x y z) t E w (.bool p.isNone) w:=by
  unfold X;have h0:∀ d:Nat,(Op.equalIn (d+1) u (.slice p m c) (.slice none m' c')).run P w=.ok p.isNone w:=fun d=>by cases p <;> simp [Op.equalIn,run_underlying hu]
  have h1:=h0 9999;have h2:(binOp .eql u (.slice p m c) (.slice none m' c')).run P w=.ok (.bool p.isNone) w:=by
    simp only [binOp];simp [show Op.equal u (.slice p m c) (.slice none m' c')=Op.equalIn (9999+1) u (.slice p m c) (.slice none m' c') from rfl,h1]
  have hg:∀ d:Nat,(Op.eqGuardIn (d+1) u (.slice p m c) (.slice none m' c')).run P w=.ok false w:=fun d=>by simp [Op.eqGuardIn,run_underlying hu]
  simp [execOp,hx,hy,eqGuard,h2]
theorem addp (b o j:Nat):(⟨b,o,none⟩:Addr).add j=⟨b,o+j,none⟩:=by cases j <;> simp [Addr.add]
theorem flat_len {k:Nat}:∀ {rows:List (List Value)},(∀ r∈rows,r.length=k)→rows.flatten.length=rows.length * k
  | [],_=>by simp
  | r :: rows,h=>by
    rw [List.flatten_cons,List.length_append,h r (by simp),flat_len (fun q hq=>h q (by simp [hq])),List.length_cons,Nat.add_mul,Nat.one_mul,Nat.add_comm]
def HoldsN (w:World) (u:Value) (m:Nat) (news:List Value):Prop:=
  (∃ a c,u=.slice (some a) m c∧∀ j x,news[j]? = some x→w.cell? (a.add j)=some x)∨(∃ c,u=.slice none 0 c∧m=0∧news=[])
theorem HoldsN.carry {w':World} {u:Value} {m:Nat} {news:List Value} (h:HoldsN w u m news) (g:Bel w w'):HoldsN w' u m news:=by
  rcases h with ⟨a,c,rfl,h⟩ | h
  · exact .inl ⟨a,c,rfl,fun j x hj=>g.keep (h j x hj)⟩
  · exact .inr h
theorem holdsN_box {b k:Nat} {t:TypeId} {cs:List Value} (h:Box w b t cs):HoldsN w (.slice (some ⟨b,0,none⟩) k k) k cs:=.inl ⟨_,_,rfl,h.news⟩
theorem StrsAt.holds {A:Nat→Prop} {v:Value} {l:List Str} (h:StrsAt A w v l):HoldsN w v l.length (l.map S):=by
  obtain ⟨p,cap,rfl,h1,h2,h3,hx,h4⟩:=h;by_cases hl:l=[]
  · subst hl;cases p with
    | none=>exact .inr ⟨cap,rfl,rfl,rfl⟩
    | some a=>exact .inl ⟨a,cap,rfl,fun j x hj=>by simp at hj⟩
  · obtain ⟨b,o,rfl,-,hc⟩:=h4 hl;refine .inl ⟨_,cap,rfl,fun j x hj=>?_⟩;have hj':j<l.length:=by simpa using (List.getElem?_eq_some_iff.1 hj).1
    have e:=hc j hj';rw [List.getElem?_map,List.getElem?_eq_getElem hj'] at hj;simp only [Option.map_some,Option.some.injEq] at hj;rw [List.getD_eq_getElem?_getD,List.getElem?_eq_getElem hj',Option.getD_some] at e;rw [addp,e,hj]
theorem RecRow.holds {α : Type} [Inhabited α] {C:Thing α} {k:Nat} {A:Nat→Prop} {p:Option Addr} {row:Nat→List Value} {l:List α} {cap:Nat} (h:RecRow C k A w p row l):HoldsN w (.slice p l.length cap) l.length ((List.range l.length).map row).flatten:=by
  by_cases hl:l=[]
  · subst hl;cases p with
    | none=>exact .inr ⟨cap,rfl,rfl,rfl⟩
    | some a=>exact .inl ⟨a,cap,rfl,fun j x hj=>by simp at hj⟩
  · obtain ⟨b,o,rfl,-,hc⟩:=h.at_ hl;refine .inl ⟨_,cap,rfl,fun j x hj=>?_⟩;have hr:∀ r∈(List.range l.length).map row,r.length=k:=fun r hr=>by
      obtain ⟨i,hi,rfl⟩:=List.mem_map.1 hr;exact h.len i (by simpa using hi)
    have hlen:((List.range l.length).map row).flatten.length=l.length * k:=by rw [flat_len hr];simp
    have hk:0<k:=by
      have hlt:=(List.getElem?_eq_some_iff.1 hj).1;rcases Nat.eq_zero_or_pos k with h0 | h0
      · rw [hlen,h0,Nat.mul_zero] at hlt;omega
      · exact h0
    have hlt:=(List.getElem?_eq_some_iff.1 hj).1;rw [hlen] at hlt;have hi:j / k<l.length:=Nat.div_lt_of_lt_mul (by rw [Nat.mul_comm];exact hlt);have e:j / k * k+j % k=j:=by rw [Nat.mul_comm];exact Nat.div_add_mod j k
    have hf:=flatk hr (i:=j / k) (Nat.mod_lt j hk) (by simpa using hi);rw [e,hj] at hf;have hrow:((List.range l.length).map row).getD (j / k) []=row (j / k):=by simp [hi]
    rw [hrow] at hf;rw [addp,show o+j=o+j / k * k+j % k by omega,hc _ _ hi (Nat.mod_lt j hk),← hf]
theorem L.appendN {base:Nat} {e:TypeId} {sz:Nat} {v:Value} {k:Nat} {xs:List Value} {ops:Array Oper} {r:List Oper} {d:Nat} {x y:Operand} {T t:TypeId} {p:String} {af:Array Edge} {u:Value} {m:Nat} {news:List Value}
    (hu:P.underlying T=some (.slice e)) (he:elT P e sz=true) (hx:ev E x=v) (hy:ev E y=u) (hd:Nat.blt d n=true) (h:Own w base e sz v k xs)
    (hl:news.length=m * sz) (hn:HoldsN w u m news) (h1:∀ u∈news,u.oneCell'=true) (hk:(k+m) * 200≤140737488355328) (hb:base≤w.heap.size)
    (kk:∀ v' w',Own w' base e sz v' (k+m) (xs++news)→Gr (fun j=>some j=v.ownBlock) w w'→(v'.ownBlock=v.ownBlock∨v'.ownBlock=some w.heap.size)→L P n ops Q r D (upd E d v') w'):
    L P n ops Q (⟨some d,.call ⟨.builtin .append,#[x,y],#[T,T]⟩,t,p,af,none⟩ :: r) D E w:=by
  rcases hn with ⟨a,c,rfl,hn⟩ | ⟨c,rfl,rfl,rfl⟩
  · exact L.append hu he hx hy hd h hl hn h1 hk hb (fun v' w' a1 a2 _ a4=>kk v' w' a1 a2 a4)
  · obtain ⟨i,z,hi,-⟩:=elT_spec he;have hrun:(Builtin.append_ #[T,T] t #[v,.slice none 0 c]).run P w=.ok v w:=by
      rcases h.2 with ⟨rfl,rfl⟩ | ⟨g,cap,cur,rfl,_,_,hnc,_⟩
      · simp [Builtin.append_,run_underlying hu,sizeOf,typeInfo,hi,Builtin.lenOf,Builtin.firstCells]
      · simp [Builtin.append_,run_underlying hu,sizeOf,typeInfo,hi,Builtin.lenOf,Builtin.firstCells,hnc,storeCells]
    refine L.val (x_append hx hy hrun) hd (kk v w (by simpa using h) (Gr.refl _ _) (.inl rfl))
end
end Go.Gx
namespace Go.Gx
variable {P:Program} {ops:Array Oper} {Q:Exit→Act→World→Prop} {C:World→Prop}
def YF (P:Program) (ops:Array Oper) (C:World→Prop) (o:Oper) (v:Value) (a:Act):Prop:=
  (Region.wanted o (yielded ops a.tmps)=true∧∀ w,C w→(execOp a.eval o).run P w=.ok (.value v) w)∨(Region.wanted o (yielded ops a.tmps)=false∧v=undef)
theorem YF.same {o:Oper} {v:Value} {a a':Act} (hy:YF P ops C o v a) (he:execOp a'.eval o=execOp a.eval o) (hw:Region.wanted o (yielded ops a'.tmps)=Region.wanted o (yielded ops a.tmps)):YF P ops C o v a':=by
  unfold YF at *;rw [he,hw];exact hy
theorem YF.take {i:Nat} {o:Oper} {v:Value} {a:Act} (hi:ops[i]? = some o) (hy:YF P ops C o v a) {K:Act→World→Prop} {w:World} (hC:C w) (h:K (a.put o.dst v) w):wpOp P ops Q i K a w:=by
  unfold wpOp;rcases hy with ⟨h1,h2⟩ | ⟨h1,rfl⟩
  · simp only [hi,h1,if_true,Oper.wp,h2 w hC,Oper.upon];exact .inl h
  · simp only [hi];rw [if_neg (by rw [h1];simp)];exact h
theorem wpOp_lateF {j:Nat} {oi oj:Oper} {v:Value} (hj:ops[j]? = some oj) (hap:oi.apart ops oj=true)
    (hsi:∀ cs b,oi.op≠.select cs b) (hsj:∀ cs b,oj.op≠.select cs b)
    (hQ:∀ c a w,Q (.panic c) (a.put oi.dst v) w→Q (.panic c) a w) {K:Act→World→Prop} {a:Act} {w:World}
    (hy:YF P ops C oi v a) (h:wpOp P ops Q j K (a.put oi.dst v) w):
    wpOp P ops Q j (fun a' w'=>YF P ops C oi v a'∧K (a'.put oi.dst v) w') a w:=by
  obtain ⟨h1,h2,h3⟩:=Oper.apart_spec hap;have keep:∀ u,YF P ops C oi v (a.put oj.dst u):=fun u=>hy.same (execOp_put oi hsi a oj.dst u h3) (wanted_put oi a oj.dst u h3)
  have hw1:=wanted_put oj a oi.dst v h1;have he1:=execOp_put oj hsj a oi.dst v h1;unfold wpOp at h ⊢;simp only [hj] at h ⊢;rw [hw1] at h;by_cases hw:Region.wanted oj (yielded ops a.tmps)=true
  · rw [if_pos hw] at h ⊢;rcases h with h | ⟨ha,hl⟩
    · left;unfold Oper.wp at h ⊢;rw [he1] at h;generalize (execOp a.eval oj).run P w=r at h ⊢;cases r with
      | halt x w'=>
        cases x with
        | panic u=>exact hQ _ _ _ h
        | _=>exact h
      | ok x w'=>
        cases x with
        | value u=>exact ⟨keep u,by rw [← Act.put_comm a v u h2];exact h⟩
        | skip=>exact ⟨keep _,by rw [← Act.put_comm a v undef h2];exact h⟩
        | defer d=>
          refine ⟨(hy.same (a':={ a with defers:=d :: a.defers }) rfl rfl).same (execOp_put oi hsi _ oj.dst _ h3) (wanted_put oi _ oj.dst _ h3),?_⟩;rw [← Act.put_comm _ v undef h2,← Act.put_defers];exact h
        | enter f args=>
          refine Calls.mono h fun e w'' he=>?_
          cases e with
          | returned u=>exact ⟨keep u,by rw [← Act.put_comm a v u h2];exact he⟩
          | panicked c=>exact hQ _ _ _ he
          | outgrown=>exact he
        | row row args=>exact Rows.mono h fun u w'' he=>⟨keep u,by rw [← Act.put_comm a v u h2];exact he⟩
        | _=>exact h
    · exact .inr ⟨by unfold Oper.asks at *;rw [he1] at ha;exact ha,hl⟩
  · rw [if_neg hw] at h ⊢;exact ⟨keep _,by rw [← Act.put_comm a v undef h2];exact h⟩
theorem getD_out {listed:Array Bool} {st:Nat} (h:listed.size≤st):listed.getD st false=false:=by
  simp [Array.getElem?_eq_none h]
theorem wpAnyC.takeF {i st:Nat} {oi:Oper} {v:Value} (hi:ops[i]? = some oi) (hsel:∀ (j:Nat) (o:Oper) cs b,ops[j]? = some o→o.op≠.select cs b)
    (hQ:∀ c a w,Q (.panic c) (a.put oi.dst v) w→Q (.panic c) a w):
    ∀ (fuel:Nat) (listed:Array Bool) (a:Act) (w:World),listed.size≤st→
      (∀ j oj,ops[j]? = some oj→j≠i→listed.getD j true=false→(∀ e∈oj.after,Region.binds .any e=true→e.on≠i)→oi.apart ops oj=true)→
      i∈Region.ready .any ops listed→YF P ops C oi v a→
      wpAnyC P ops C st Q fuel (listed.setIfInBounds i true) (a.put oi.dst v) w→wpAnyC P ops C st Q (fuel+1) listed a w:=by
  intro fuel;induction fuel with
  | zero=>
    intro listed a w hsz _ hr hy H;have hC:C w:=H.1 (getD_out (by simpa using hsz));refine ⟨fun _=>hC,fun h=>(by rw [h] at hr;cases hr),fun j hj=>?_⟩;by_cases hji:j=i
    · subst hji;exact hy.take hi hC H
    · have:=ready_mono hj hji;rw [H.2.1] at this;cases this
  | succ fuel ih=>
    intro listed a w hsz hfree hr hy H;have hun:=(mem_ready.1 hr).1;have hC:C w:=H.here (getD_out (by simpa using hsz));refine ⟨fun _=>hC,fun h=>(by rw [h] at hr;cases hr),fun j hj=>?_⟩;by_cases hji:j=i
    · subst hji;exact hy.take hi hC H
    · have h1:=H.2.2 j (ready_mono hj hji);obtain ⟨hjun,oj,hoj,hall⟩:=mem_ready.1 hj;have hnot:∀ e∈oj.after,Region.binds .any e=true→e.on≠i:=fun e he hb heq=>by
        have h1:=hall e he hb;rw [heq,unlisted hun] at h1;cases h1
      have h2:=wpOp_lateF hoj (hfree j oj hoj hji hjun hnot) (fun cs b=>hsel i oi cs b hi) (fun cs b=>hsel j oj cs b hoj) hQ hy h1;refine wpOp_mono (fun a' w' h3=>ih (listed.setIfInBounds j true) a' w' (by simpa using hsz) (fun k ok hk hki hu hno=>?_) (ready_mono hr (Ne.symm hji)) h3.1 ?_) h2
      · refine hfree k ok hk hki ?_ hno;by_cases hjk:j=k
        · subst hjk;exact hjun
        · rw [getD_set_ne true hjk] at hu;exact hu
      · rw [Array.setIfInBounds_comm _ _ hji];exact h3.2
section
variable {n st:Nat} {K:List Deferred→Env→World→Prop} {D:List Deferred} {E:Env} {w:World}
theorem LAC.takeY {fuel:Nat} {listed:Array Bool} {i d:Nat} {o:Oper} {v:Value}
    (ho:ops[i]? = some o) (hod:o.dst=some d) (hs:Region.noSelect ops=true) (hf:Region.free .any ops listed i=true) (hr:(Region.ready .any ops listed).contains i=true) (hz:Nat.ble listed.size st=true)
    (hx:∀ a,Fr D n a E→YF P ops C o v a) (hd:Nat.blt d n=true) (k:LAC P n ops C st K fuel (listed.setIfInBounds i true) D (upd E d v) w):LAC P n ops C st K (fuel+1) listed D E w:=by
  intro a ha;refine wpAnyC.takeF ho (Region.noSelect_spec hs) ?_ fuel listed a w (Nat.le_of_ble_eq_true hz) (Region.free_spec ho hf) (by simpa using hr) (hx a ha) ?_
  · rintro c a w ⟨_,E,_,h,_⟩;cases h
  · rw [hod];exact k _ (ha.put v hd)
theorem LAC.takeN {fuel:Nat} {listed:Array Bool} {i d:Nat} {op:Op} {t:TypeId} {p:String} {af:Array Edge} {v:Value}
    (ho:ops[i]? = some ⟨some d,op,t,p,af,none⟩) (hs:Region.noSelect ops=true) (hf:Region.free .any ops listed i=true) (hr:(Region.ready .any ops listed).contains i=true) (hz:Nat.ble listed.size st=true)
    (hx:∀ w,C w→X P op t E w v w) (hd:Nat.blt d n=true) (k:LAC P n ops C st K fuel (listed.setIfInBounds i true) D (upd E d v) w):LAC P n ops C st K (fuel+1) listed D E w:=
  LAC.takeY ho rfl hs hf hr hz (fun a ha=>.inl ⟨by simp [Region.wanted],fun w hw=>by
    have:=hx w hw;unfold X at this;rw [execOp_bare,ha.eval];exact this⟩) hd k
theorem LAC.split {fuel:Nat} {listed:Array Bool} {dj:Nat} {b:Bool} (_hE:E dj=.bool b) (ht:b=true→LAC P n ops C st K fuel listed D E w) (hf:b=false→LAC P n ops C st K fuel listed D E w):LAC P n ops C st K fuel listed D E w:=by
  cases b
  · exact hf rfl
  · exact ht rfl
theorem LAC.doneF {listed:Array Bool} (hr:Region.ready .any ops listed=[]) (hC:C w) (h:K D E w):LAC P n ops C st K 0 listed D E w:=
  fun _ ha=>⟨fun _=>hC,hr,lift_mk (by simp) ha ⟨rfl,h⟩⟩
theorem W.drawF {id:Nat} {l:List Oper} {Q:Post} (st:Nat) (hm:P.follows .mixedOrders=true) (h:∀ w1,Bel w w1→LAC P n l.toArray (Bel w) st (Q .normal) l.length (Array.replicate l.length false) D E w1):W P n (.region id l.toArray true) Q D E w:=
  W.drawT (Bel w) st hm (h _ (bel_drew _))
end
end Go.Gx
namespace Go.Gx
open Go.Proofs
def lacksS (L:Bool) (s:Sh) (first:Bool):Bool:=L && (first == decide (s.kind=6))
def recF (L:Bool) (F:Sh→Sh→Bool) (a b:Sh) (i:Nat):Bool:=if idxS (a.names.getD i []) b.names<b.names.length then F (a.parts.getD i default) (b.parts.getD (idxS (a.names.getD i []) b.names) default) else lacksS L a true
def funF (F:Sh→Sh→Bool) (a b:Sh) (i:Nat):Bool:=if a.kind=8∧i+1<a.parts.length then F (b.parts.getD i default) (a.parts.getD i default) else F (a.parts.getD i default) (b.parts.getD i default)
def restF (a b:Sh):Bool:=!(List.range b.names.length).any fun i=>!decide (idxS (b.names.getD i []) a.names<a.names.length)
theorem all_succ {q:Nat→Bool} {k:Nat}:(List.range (k+1)).all q=((List.range k).all q && q k):=by
  rw [List.range_succ,List.all_append];simp
theorem all_missR {q:Nat→Bool} {k n:Nat} (h:k<n) (hk:q k=false):(List.range n).all q=false:=by
  rw [List.all_eq_false];exact ⟨k,List.mem_range.2 h,by rw [hk];simp⟩
section
variable {P:Program} {E:Env} {w:World}
end
theorem allB_fit {s:Sh} (h:s.allB fitsS=true):fitsS s=true:=by rw [Sh.allB_eq] at h;simp at h;exact h.1
end Go.Gx
namespace Go.Gx
def AvC (M:Nat→Prop) (n1 n0:Nat) (w:World) (v1 v2:Value) (k:Nat):Prop:=(k<n1∧M k)∨(n1≤k∧k<n0)∨some k=v1.ownBlock∨some k=v2.ownBlock∨w.heap.size≤k
theorem avc_step {M:Nat→Prop} {n1 n0:Nat} {w w2:World} {v v' v1 v2:Value} (hs:w.heap.size≤w2.heap.size) (h1:v1.ownBlock=v.ownBlock∨∀ k,some k=v1.ownBlock→w.heap.size≤k) (h2:v2.ownBlock=v'.ownBlock∨∀ k,some k=v2.ownBlock→w.heap.size≤k) {j:Nat} (h:AvC M n1 n0 w2 v1 v2 j):AvC M n1 n0 w v v' j:=by
  rcases h with h | h | h | h | h
  · exact .inl h
  · exact .inr (.inl h)
  · rcases h1 with e | e
    · exact .inr (.inr (.inl (h.trans e)))
    · exact .inr (.inr (.inr (.inr (e j h))))
  · rcases h2 with e | e
    · exact .inr (.inr (.inr (.inl (h.trans e))))
    · exact .inr (.inr (.inr (.inr (e j h))))
  · exact .inr (.inr (.inr (.inr om_)))
theorem ShsOwn.snocW {A A' R:Nat→Prop} {w w':World} {base:Nat} {e:TypeId} {v':Value} {l:List Sh} {rows:List (List Value)} {cs:List Value} {t:Sh} (h1:rows.length=l.length) (h3:∀ i,i<l.length→(rows.getD i []).length=5) (h4:∀ i,i<l.length→ShC A w (rows.getD i []) (l.getD i default))
    (ht:ShC A' w' cs t) (ho:Own w' base e 5 v' (l.length+1) (rows.flatten++cs)) (g:Gr R w w') (hR:∀ j,R j→A j) (hA:∀ j,A' j→A j):ShsOwn A' w' base e v' (l++[t]):=by
  refine ⟨rows++[cs],by simp [h1],?_,fun i hi=>?_,fun i hi=>?_⟩
  · have e1:(rows++[cs]).flatten=rows.flatten++cs:=by simp
    rw [e1,List.length_append];exact ho
  · rw [getD_snoc (by simpa [h1] using hi)];split
    · exact h3 i om_
    · exact ht.len
  · rw [getD_snoc (by simpa [h1] using hi),getD_snoc hi];by_cases hlt:i<l.length
    · rw [if_pos om_,if_pos hlt];exact ((h4 i hlt).carryR g hR).mono fun j _ hj=>hA j hj
    · rw [if_neg om_,if_neg hlt];exact ht
theorem map_range_succ {α : Type} {f:Nat→α} {i:Nat}:(List.range (i+1)).map f=(List.range i).map f++[f i]:=by
  rw [List.range_succ,List.map_append];rfl
end Go.Gx
namespace Go.Gx
theorem part_fit {s:Sh} (h:s.allB fitsS=true) {i:Nat} (hi:i<s.parts.length):(s.parts.getD i default).allB fitsS=true:=by
  rw [Sh.allB_eq] at h;simp at h;exact allL_getD h.2 hi
end Go.Gx
namespace Go.Gx
open Go.Sort
theorem allL_iff {p:Sh→Bool}:∀ {l:List Sh},allL p l=true↔∀ x∈l,x.allB p=true
  | []=>by simp [allL]
  | x :: l=>by rw [allL,Bool.and_eq_true,allL_iff (l:=l)];simp
end Go.Gx
namespace Go.Gx
def relB (any L:Bool) (F:Sh→Sh→Bool) (a b:Sh):Bool:=
  if any=true∧(a.kind=4∨b.kind=4) then true
  else if a.kind≠b.kind∨a.of≠b.of∨a.name≠b.name then false
  else if a.kind=6∨a.kind=7 then (List.range a.names.length).all (recF L F a b) && (lacksS L b false || restF a b)
  else if a.parts.length≠b.parts.length then false
  else (List.range a.parts.length).all (funF F a b)
def relN (any L:Bool):Nat→Sh→Sh→Bool
  | 0=>fun _ _=>false
  | N+1=>relB any L (relN any L N)
def Rel (any L:Bool) (a b:Sh):Prop:=relN any L (SizeOf.sizeOf a+SizeOf.sizeOf b+1) a b=true
noncomputable instance (any L:Bool) (a b:Sh):Decidable (Rel any L a b):=inferInstanceAs (Decidable (_=true))
end Go.Gx
namespace Go.Gx
theorem deep_eq (s:Sh):s.deep=1+deepL s.parts:=by cases s;rfl
end Go.Gx
