/- Maps: an entry made ahead of its value's store; an entry of a literal; how many entries there are. Conditions: none. -/
import Derived.ChangeMaps3
import Derived.WideKeyEntry
import Derived.Test.YtigcdmnhmfeioaaGfDrawD
namespace Go.Gx
section
variable {κ : Type} [DecidableEq κ] {K:κ → Value} {V:κ → Prop} {P:Program} {n:Nat} {Q:Post} {D:List Deferred} {E:Env} {w:World}
omit [DecidableEq κ] in
theorem x_lenM {x:Operand} {t s kt et:TypeId} {b:Nat} {l:List (κ × Value)} (hu:P.underlying s=some (.map kt et)) (h:ev E x=.map (some b)) (hl:MapAtK K V w b l):
    X P (.call ⟨.builtin .len,#[x],#[s]⟩) t E w (.int .i64 (l.length:Nat)) w:=by
  obtain ⟨es,c,hb,hes,-⟩:=hl;have hsz:es.size=l.length:=by
    have:=congrArg List.length hes;simpa using this
  unfold X;simp [execOp,resolve,invoke,builtin,Builtin.len_,h,run_underlying hu,MapKept.run_getObj_map hb,goInt,hsz]
def HalfK (K:κ → Value) (V:κ → Prop) (w:World) (b:Nat) (l:List (κ × Value)) (k:κ) (st:Nat):Prop:=
  ∃ es clock e0 l1,w.heap[b]? = some (.map es clock)∧MapIsK K V es clock l1∧es.toList[idxK k l1]? = some e0∧e0.born=st∧idxK k l1<l1.length∧∀ v,putK l1 k v=putK l k v
theorem idxK_last {k:κ} {v:Value} {l:List (κ × Value)} (h:¬ idxK k l<l.length):idxK k (l++[(k,v)])=l.length:=by
  rw [idxK_snoc,if_neg h,if_pos rfl]
theorem L.entryK {t kt et ty:TypeId} {ops:Array Oper} {r:List Oper} {d:Nat} {m x:Operand} {p:String} {af:Array Edge} {b:Nat} {l:List (κ × Value)} {k:κ} {z:Value} (hm:P.underlying t=some (.map kt et)) (hk:KLaw P kt K V) (hz:(P.info? et).bind (·.zero)=some z)
    (hx:ev E m=.map (some b)) (hy:ev E x=K k) (hV:V k) (hl:MapAtK K V w b l) (hd:Nat.blt d n=true)
    (kk:∀ w1 (st:Nat) v0,HalfK K V w1 b l k st→Gr (· = b) w w1→w1.heap.size=w.heap.size→L P n ops Q r D (upd E d (.tuple #[v0,.int .i64 (st:Nat)])) w1):
    L P n ops Q (⟨some d,.mapEntry t m x,ty,p,af,none⟩ :: r) D E w:=by
  have hlt:=hl.lt;obtain ⟨es,c,hb,hes,hn,hc,hval,hnd⟩:=hl;have hf:=hk.find k es.toList l w hV hval hnd hes;have hzr:∀ w,(zeroValue et).run P w=.ok z w:=fun w=>by
    cases hi:P.info? et with
    | none=>simp [hi] at hz
    | some i=>
      simp [hi] at hz;simp [zeroValue,typeInfo,hi,hz]
  have hkeep:∀ w o,Gr (· = b) w { w with heap:=w.heap.setIfInBounds b o }:=fun w o=>
    ⟨rfl,rfl,rfl,by simp,fun i _ hi=>by simp [Ne.symm hi]⟩
  by_cases h:idxK k l<l.length
  · rw [if_pos h] at hf;have hlen:es.toList.length=l.length:=by have:=congrArg List.length hes;simpa using this
    obtain ⟨e0,he0⟩:∃ e0,es.toList[idxK k l]? = some e0:=⟨_,List.getElem?_eq_getElem (by rw [hlen];exact h)⟩;have hes2:es[idxK k l]? = some e0:=by rw [← he0];simp
    have hkey:e0.key=K k:=by
      have hg:=congrArg (fun q:List (Value × Value)=>q[idxK k l]?) hes;simp only [List.getElem?_map] at hg;rw [List.getElem?_eq_getElem h,he0] at hg;simp only [Option.map_some,Option.some.injEq,kvM,Prod.mk.injEq] at hg;rw [hg.1,idxK_key h]
    have hsame:es.modify (idxK k l) (fun e=>{ e with key:=K k })=es:=by
      apply Array.ext';rw [Array.toList_modify,ChangeMaps.modify_eq_set _ _ _ _ he0];have:({ e0 with key:=K k }:MapEntry)=e0:=by rw [← hkey]
      rw [this];exact WideElems.set_self _ _ _ he0
    refine L.val (v:=.tuple #[valK l (idxK k l),.int .i64 (e0.born:Nat)]) (w':={ w with heap:=w.heap.setIfInBounds b (.map es c) }) ?_ hd (kk _ e0.born _ ⟨es,c,e0,l,by simp [hlt],⟨hes,hn,hc,hval,hnd⟩,he0,rfl,h,fun _=>rfl⟩ (hkeep _ _) (by simp));unfold X;simp [execOp,hx,hy,Instr.mapEntry,run_underlying hm,MapKept.run_getObj_map hb,hk.check _ k w hV,hf,hes2,hkey,hk.stays k w hV,hsame,MapKept.run_setObj_map _ hb,Result.andThen,goInt]
  · rw [if_neg h] at hf;have hi:=idxK_last (v:=z) h;have hlen:es.toList.length=l.length:=by have:=congrArg List.length hes;simpa using this
    refine L.val (v:=.tuple #[z,.int .i64 (c:Nat)]) (w':={ w with heap:=w.heap.setIfInBounds b (.map (es.push { key:=K k,val:=z,born:=c }) (c+1)) }) ?_ hd (kk _ c _ ⟨es.push { key:=K k,val:=z,born:=c },c+1,{ key:=K k,val:=z,born:=c },l++[(k,z)],by simp [hlt],⟨?_,?_,?_,?_,?_⟩,?_,rfl,by rw [hi];simp,fun v=>?_⟩ (hkeep _ _) (by simp))
    · unfold X;simp [execOp,hx,hy,Instr.mapEntry,run_underlying hm,MapKept.run_getObj_map hb,hk.check _ k w hV,hf,hzr,MapKept.run_setObj_map _ hb,Result.andThen,goInt]
    · rw [Array.toList_push,List.map_append,hes,List.map_append];rfl
    · rw [Array.toList_push,List.map_append];refine List.nodup_append.2 ⟨hn,by simp,fun x hx y hy e=>?_⟩;have:=hc x hx;simp at hy;omega
    · rw [Array.toList_push,List.map_append];intro x hx;rcases List.mem_append.1 hx with hx | hx
      · have:=hc x hx;omega
      · simp at hx;omega
    · have:=putK_valid (v:=z) hval hV;unfold putK at this;rw [if_neg h] at this;exact this
    · have:=putK_nodup (x:=k) (v:=z) hnd;unfold putK at this;rw [if_neg h] at this;exact this
    · rw [hi,Array.toList_push,← hlen];simp
    · unfold putK;rw [hi,if_pos (by simp),if_neg h,List.set_append_right _ _ (Nat.le_refl _),Nat.sub_self];rfl
theorem L.entryStoreK {t ty:TypeId} {ops:Array Oper} {r:List Oper} {m s y:Operand} {p:String} {af:Array Edge} {b st:Nat} {l:List (κ × Value)} {k:κ} {v:Value}
    (hx:ev E m=.map (some b)) (hs:ev E s=.int .i64 (st:Nat)) (hv:ev E y=v) (hV:V k) (h:HalfK K V w b l k st)
    (kk:∀ w1,MapAtK K V w1 b (putK l k v)→Gr (· = b) w w1→w1.heap.size=w.heap.size→L P n ops Q r D E w1):
    L P n ops Q (⟨none,.entryStore t m s y,ty,p,af,none⟩ :: r) D E w:=by
  obtain ⟨es,c,e0,l1,hb,⟨hes,hn,hc,hval,hnd⟩,he0,hst,hi,hput⟩:=h;have hlt:b<w.heap.size:=(Array.getElem?_eq_some_iff.1 hb).1;have hkeep:∀ w o,Gr (· = b) w { w with heap:=w.heap.setIfInBounds b o }:=fun w o=>
    ⟨rfl,rfl,rfl,by simp,fun i _ hi=>by simp [Ne.symm hi]⟩
  have hidx:es.findIdx? (fun e=>((e.born:Nat):Int) == ((st:Nat):Int))=some (idxK k l1):=by
    rw [WideElems.findIdx_arr,← hst];exact WideElems.findIdx_born hn he0
  have hkey:e0.key=K k:=by
    have hg:=congrArg (fun q:List (Value × Value)=>q[idxK k l1]?) hes;simp only [List.getElem?_map] at hg;rw [List.getElem?_eq_getElem hi,he0] at hg;simp only [Option.map_some,Option.some.injEq,kvM,Prod.mk.injEq] at hg;rw [hg.1,idxK_key hi]
  have hmod:es.modify (idxK k l1) (fun e=>{ e with val:=v })=es.modify (idxK k l1) (fun e=>{ e with key:=K k,val:=v }):=by
    apply Array.ext';rw [Array.toList_modify,Array.toList_modify,ChangeMaps.modify_eq_set _ _ _ _ he0,ChangeMaps.modify_eq_set _ _ _ _ he0,← hkey]
  rw [show putK l k v=putK l1 k v from (hput v).symm] at kk;refine L.skip (w':={ w with heap:=w.heap.setIfInBounds b (.map (es.modify (idxK k l1) fun e=>{ e with key:=K k,val:=v }) c) }) ?_ (kk _ ⟨es.modify (idxK k l1) fun e=>{ e with key:=K k,val:=v },c,by simp [hlt],?_,by rw [Array.toList_modify,born_modify];exact hn,by rw [Array.toList_modify,born_modify];exact hc,putK_valid hval hV,putK_nodup hnd⟩ (hkeep _ _) (by simp))
  · unfold Xs;simp [execOp,hx,hs,hv,Instr.entryStore,MapKept.run_getObj_map hb,asInt,asIntOf,hidx,hmod,MapKept.run_setObj_map _ hb,Result.andThen]
  · unfold putK;rw [if_pos hi,Array.toList_modify];exact set_kvK hes
theorem L.insertK {t ty:TypeId} {ops:Array Oper} {r:List Oper} {m x y:Operand} {p:String} {af:Array Edge} (h:L P n ops Q (⟨none,.mapUpdate t m x y,ty,p,af,none⟩ :: r) D E w):L P n ops Q (⟨none,.insert t m x y,ty,p,af,none⟩ :: r) D E w:=by
  intro a ha;have h1:=h a ha;unfold wpList at h1 ⊢;exact h1
end
end Go.Gx
