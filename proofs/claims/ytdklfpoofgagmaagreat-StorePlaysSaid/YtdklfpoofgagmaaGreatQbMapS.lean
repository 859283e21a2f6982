/- Maps whose keys are strings or numbers; looked up without asking; deleted from. Conditions: none. -/
import Derived.MapKept
import Derived.Test.YtdklfpoofgagmaaGreatQbSrtK
import Derived.Test.YtdklfpoofgagmaaGreatQbDef
import Derived.Test.YtdklfpoofgagmaaGreatQbRowG
namespace Go.Gx
open Go.Proofs Go.MapKept
variable {P:Program} {n:Nat} {Q:Post} {D:List Deferred} {E:Env} {w:World}
theorem klaw_plain {κ : Type} [DecidableEq κ] {K:κ → Value} {V:κ → Prop} {kt:TypeId} {d:TypeDesc} (hd:P.underlying kt=some d) (hK:∀ x,V x→IsKey d (K x)) (hinj:∀ {a b:κ},K a=K b→a=b):KLaw P kt K V where
  check:=fun e x w hx=>run_checkKey hd (hK x hx) e 9999
  stays:=fun x w hx=>run_keyThatStays (d:=d) (hK x hx)
  find:=fun x es l w hx hl hn he=>by
    have hlen:es.length=l.length:=by simpa using congrArg List.length he
    have hkey:∀ j (h:j<es.length) (h2:j<l.length),es[j].key=K l[j].1∧es[j].val=l[j].2:=fun j h h2=>by
      have:=congrArg (fun q:List (Value × Value)=>q[j]?) he;simp only [List.getElem?_map,List.getElem?_eq_getElem h,List.getElem?_eq_getElem h2,Option.map_some,Option.some.injEq,kvM,Prod.mk.injEq] at this;exact this
    have hall:∀ e∈es,IsKey d e.key:=fun e h=>by
      obtain ⟨j,hj,rfl⟩:=List.getElem_of_mem h;rw [(hkey j hj om_).1];exact hK _ (hl _ (List.getElem_mem _))
    rcases findNow_spec (hK x hx) es 0 hall with ⟨h1,h2⟩ | ⟨j,e,h1,h2,h3⟩
    · rw [run_findKey hd h1,if_neg];intro hi;exact h2 _ (List.getElem_mem (by omega:idxK x l<es.length)) (by rw [(hkey _ om_ hi).1,idxK_key hi])
    · obtain ⟨hj,rfl⟩:=List.getElem?_eq_some_iff.1 h2;have hx':l[j].1=x:=hinj (by rw [← (hkey j hj om_).1,h3]);have hi:idxK x l<l.length:=idxK_mem.2 (hx' ▸ List.mem_map_of_mem (List.getElem_mem _));have hij:idxK x l=j:=by
        have h4:=idxK_key hi;have h5:=List.pairwise_iff_getElem.1 hn;rcases Nat.lt_trichotomy (idxK x l) j with h | h | h
        · exact (h5 _ _ (by simpa using hi) (by simp;omega) h (by simp [h4,hx'])).elim
        · exact h
        · exact (h5 _ _ (by simp;omega) (by simpa using hi) h (by simp [h4,hx'])).elim
      have hv:valK l j=(es[j]).val:=by rw [(hkey j hj om_).2,valK_at]
      rw [run_findKey hd h1,if_pos hi,hij,hv,Nat.zero_add]
theorem klawS {kt:TypeId} (hd:P.underlying kt=some .string):KLaw P kt S (fun _=>True):=klaw_plain hd (fun _ _=>trivial) (fun h=>S_inj h)
theorem MapAtK.str {V:Str→Prop} {b:Nat} {l:List (Str × Value)} (h:MapAtK S V w b l):MapAt w b l:=by
  obtain ⟨es,c,hb,h1,h2,h3,-⟩:=h;exact ⟨es,c,hb,h1,h2,h3⟩
theorem MapAtK.nodup {κ : Type} [DecidableEq κ] {K:κ → Value} {V:κ → Prop} {b:Nat} {l:List (κ × Value)} (h:MapAtK K V w b l):(l.map (·.1)).Nodup:=by
  obtain ⟨es,c,hb,h1,h2,h3,h4,h5⟩:=h;exact h5
section
variable {κ : Type} [DecidableEq κ] {K:κ → Value} {V:κ → Prop}
theorem x_look0 {t kt et:TypeId} {m x:Operand} {ty:TypeId} {b:Nat} {l:List (κ × Value)} {k:κ} {z v:Value} (hm:P.underlying t=some (.map kt et)) (hk:KLaw P kt K V) (hz:(P.info? et).bind (·.zero)=some z)
    (hx:ev E m=.map (some b)) (hy:ev E x=K k) (hV:V k) (hl:MapAtK K V w b l) (hv:(getK l k).getD z=v):X P (.lookup t m x false) ty E w v w:=by
  obtain ⟨es,c,hb,hes,-,-,hval,hnd⟩:=hl;have hf:=hk.find k es.toList l w hV hval hnd hes;have hzr:∀ w,(zeroValue et).run P w=.ok z w:=fun w=>by
    cases hi:P.info? et with
    | none=>simp [hi] at hz
    | some i=>
      simp [hi] at hz;simp [zeroValue,typeInfo,hi,hz]
  unfold X getK at *;by_cases h:idxK k l<l.length
  · rw [if_pos h] at hf hv;simp only [Option.getD_some] at hv;simp [execOp,hx,hy,Instr.lookup,run_underlying hm,MapKept.run_getObj_map hb,hk.check _ k w hV,hf,Result.andThen,hv]
  · rw [if_neg h] at hf hv;simp only [Option.getD_none] at hv;simp [execOp,hx,hy,Instr.lookup,run_underlying hm,MapKept.run_getObj_map hb,hk.check _ k w hV,hf,hzr,Result.andThen,hv]
def delK (l:List (κ × Value)) (x:κ):List (κ × Value):=l.eraseIdx (idxK x l)
omit [DecidableEq κ] in
theorem map_erase {α β : Type} {f:α → β}:∀ {l:List α} {i:Nat},(l.eraseIdx i).map f=(l.map f).eraseIdx i
  | [],_=>by simp
  | a :: l,0=>by simp
  | a :: l,i+1=>by simp [map_erase (l:=l)]
theorem delK_keys {l:List (κ × Value)} {x:κ}:(delK l x).map (·.1)=(l.map (·.1)).eraseIdx (idxK x l):=map_erase
theorem getK_del {l:List (κ × Value)} {x y:κ} (hn:(l.map (·.1)).Nodup):getK (delK l x) y=if y=x then none else getK l y:=by
  induction l with
  | nil=>simp [delK,getK]
  | cons a l ih=>
    simp only [List.map_cons,List.nodup_cons] at hn;have hcons:∀ (m:List (κ × Value)),getK (a :: m) y=if a.1=y then some a.2 else getK m y:=fun m=>by
      unfold getK;rw [idxK];by_cases h:a.1=y
      · simp [h,valK]
      · rw [if_neg h,if_neg h];simp only [List.length_cons,Nat.add_lt_add_iff_right];split <;> simp [valK]
    unfold delK;rw [idxK];by_cases hx:a.1=x
    · rw [if_pos hx,List.eraseIdx_cons_zero,hcons];by_cases hy:y=x
      · rw [if_pos hy];unfold getK;rw [if_neg];intro h;exact hn.1 (by rw [hx,← hy];exact idxK_mem.1 h)
      · rw [if_neg hy,if_neg (fun h=>hy (h.symm.trans hx))]
    · rw [if_neg hx,List.eraseIdx_cons_succ,hcons,hcons];by_cases hy:a.1=y
      · rw [if_pos hy,if_pos hy,if_neg (fun h=>hx (hy.trans h))]
      · rw [if_neg hy,if_neg hy];exact ih hn.2
omit [DecidableEq κ] in
theorem born_erase {es:Array MapEntry} {i:Nat}:(es.eraseIdxIfInBounds i).toList=es.toList.eraseIdx i:=by
  unfold Array.eraseIdxIfInBounds;split
  · simp
  · next h=>rw [List.eraseIdx_of_length_le (by simpa using h)]
theorem L.mapdelK {t kt et ty:TypeId} {ops:Array Oper} {r:List Oper} {m x:Operand} {p:String} {af:Array Edge} {b:Nat} {l:List (κ × Value)} {k:κ} (hm:P.underlying t=some (.map kt et)) (hk:KLaw P kt K V)
    (hx:ev E m=.map (some b)) (hy:ev E x=K k) (hV:V k) (hl:MapAtK K V w b l)
    (kk:∀ w1,MapAtK K V w1 b (delK l k)→Gr (· = b) w w1→w1.heap.size=w.heap.size→L P n ops Q r D E w1):
    L P n ops Q (⟨none,.call ⟨.builtin .delete,#[m,x],#[t,kt]⟩,ty,p,af,none⟩ :: r) D E w:=by
  have hlt:=hl.lt;obtain ⟨es,c,hb,hes,hn,hc,hval,hnd⟩:=hl;have hf:=hk.find k es.toList l w hV hval hnd hes;have hkeep:∀ w o,Gr (· = b) w { w with heap:=w.heap.setIfInBounds b o }:=fun w o=>
    ⟨rfl,rfl,rfl,by simp,fun i _ hi=>by simp [Ne.symm hi]⟩
  have hsub:(es.toList.eraseIdx (idxK k l)).Sublist es.toList:=List.eraseIdx_sublist _ _;have hlen:es.toList.length=l.length:=by simpa using congrArg List.length hes
  refine L.valn (v:=.tuple #[]) (w':={ w with heap:=w.heap.setIfInBounds b (.map (es.eraseIdxIfInBounds (idxK k l)) c) }) ?_ (kk _ ⟨es.eraseIdxIfInBounds (idxK k l),c,by simp [hlt],?_,?_,?_,?_,?_⟩ (hkeep _ _) (by simp))
  · unfold X;by_cases h:idxK k l<l.length
    · rw [if_pos h] at hf;simp [execOp,resolve,invoke,builtin,hx,hy,Builtin.delete_,run_underlying hm,MapKept.run_getObj_map hb,hk.check _ k w hV,hf,MapKept.run_setObj_map _ hb,Result.andThen]
    · rw [if_neg h] at hf;have he:es.eraseIdxIfInBounds (idxK k l)=es:=by
        apply Array.ext';rw [born_erase,List.eraseIdx_of_length_le om_]
      have hw:({ w with heap:=w.heap.setIfInBounds b (.map es c) }:World)=w:=by
        have:w.heap.setIfInBounds b (.map es c)=w.heap:=by
          apply Array.ext_getElem?;intro i;by_cases hi:b=i
          · subst hi;rw [Array.getElem?_setIfInBounds_self_of_lt hlt,hb]
          · rw [Array.getElem?_setIfInBounds_ne hi]
        rw [this]
      rw [he,hw];simp [execOp,resolve,invoke,builtin,hx,hy,Builtin.delete_,run_underlying hm,MapKept.run_getObj_map hb,hk.check _ k w hV,hf,MapKept.run_setObj_map _ hb,Result.andThen,hw]
  · rw [born_erase,map_erase,hes,← map_erase];rfl
  · rw [born_erase];exact hn.sublist (hsub.map _)
  · rw [born_erase];exact fun n hn'=>hc n ((hsub.map _).subset hn')
  · exact fun y hy=>hval y ((List.eraseIdx_sublist _ _).subset hy)
  · rw [delK_keys];exact hnd.sublist (List.eraseIdx_sublist _ _)
end
theorem x_eqm0 {x y:Operand} {t u z kt et:TypeId} {p:Option Nat} (hu:P.underlying u=some (.map kt et)) (hx:ev E x=.map p) (hy:ev E y=.map none):X P (.binOp .eql u x y z) t E w (.bool p.isNone) w:=by
  unfold X;have h0:∀ d:Nat,(Op.equalIn (d+1) u (.map p) (.map none)).run P w=.ok p.isNone w:=fun d=>by cases p <;> simp [Op.equalIn,run_underlying hu]
  have h1:=h0 9999;have h2:(binOp .eql u (.map p) (.map none)).run P w=.ok (.bool p.isNone) w:=by
    simp only [binOp];simp [show Op.equal u (.map p) (.map none)=Op.equalIn (9999+1) u (.map p) (.map none) from rfl,h1]
  have hg:∀ d:Nat,(Op.eqGuardIn (d+1) u (.map p) (.map none)).run P w=.ok false w:=fun d=>by simp [Op.eqGuardIn,run_underlying hu]
  simp [execOp,hx,hy,eqGuard,h2]
theorem x_eqp0 {x y:Operand} {t u z e:TypeId} {p:Option Addr} (hu:P.underlying u=some (.pointer e)) (hx:ev E x=.pointer p) (hy:ev E y=.pointer none):X P (.binOp .eql u x y z) t E w (.bool p.isNone) w:=by
  unfold X;have h0:∀ d:Nat,(Op.equalIn (d+1) u (.pointer p) (.pointer none)).run P w=.ok p.isNone w:=fun d=>by cases p <;> simp [Op.equalIn,run_underlying hu]
  have h1:=h0 9999;have h2:(binOp .eql u (.pointer p) (.pointer none)).run P w=.ok (.bool p.isNone) w:=by
    simp only [binOp];simp [show Op.equal u (.pointer p) (.pointer none)=Op.equalIn (9999+1) u (.pointer p) (.pointer none) from rfl,h1]
  have hg:∀ d:Nat,(Op.eqGuardIn (d+1) u (.pointer p) (.pointer none)).run P w=.ok false w:=fun d=>by simp [Op.eqGuardIn,run_underlying hu]
  simp [execOp,hx,hy,eqGuard,h2]
theorem x_slS {x y:Operand} {t s:TypeId} {a:Str} {k:IntKind} {i:Int} {j:Nat} (hu:P.underlying s=some .string) (hx:ev E x=S a) (hy:ev E y=.int k i) (hi:i=(j:Nat)) (hj:j≤a.length):
    X P (.slice s x none (some y) none) t E w (S (a.take j)) w:=by
  unfold X;subst hi;have hs:j≤(⟨a.toArray⟩:ByteArray).size:=hj;have he:(⟨a.toArray⟩:ByteArray).extract 0 j=⟨(a.take j).toArray⟩:=by
    apply ByteArray.ext;simp [ByteArray.data_extract]
  simp [execOp,hx,hy,S,Instr.sliceAt,Instr.slice,Instr.sliceBounds,Instr.sliceBound,asIntOf,run_underlying hu,hs,he]
section
variable {κ : Type} [DecidableEq κ] {K:κ → Value} {V:κ → Prop}
theorem x_lookKn {t kt et:TypeId} {m x:Operand} {ty:TypeId} {b:Nat} {l:List (κ × Value)} {k:κ} {z:Value} (hm:P.underlying t=some (.map kt et)) (hk:KLaw P kt K V) (hz:(P.info? et).bind (·.zero)=some z)
    (hx:ev E m=.map (some b)) (hy:ev E x=K k) (hV:V k) (hl:MapAtK K V w b l) (hg:getK l k=none):X P (.lookup t m x true) ty E w (.tuple #[z,.bool false]) w:=by
  have hi:¬ idxK k l<l.length:=fun hi=>by unfold getK at hg;rw [if_pos hi] at hg;cases hg
  have:=x_lookK (ty:=ty) hm hk hz hx hy hV hl
  rwa [if_neg hi,decide_eq_false hi] at this
theorem x_lookKs {t kt et:TypeId} {m x:Operand} {ty:TypeId} {b:Nat} {l:List (κ × Value)} {k:κ} {z v:Value} (hm:P.underlying t=some (.map kt et)) (hk:KLaw P kt K V) (hz:(P.info? et).bind (·.zero)=some z)
    (hx:ev E m=.map (some b)) (hy:ev E x=K k) (hV:V k) (hl:MapAtK K V w b l) (hg:getK l k=some v):X P (.lookup t m x true) ty E w (.tuple #[v,.bool true]) w:=by
  have hi:idxK k l<l.length:=Decidable.byContradiction fun hi=>by unfold getK at hg;rw [if_neg hi] at hg;cases hg
  have hv:valK l (idxK k l)=v:=by unfold getK at hg;rw [if_pos hi] at hg;exact Option.some.inj hg
  have:=x_lookK (ty:=ty) hm hk hz hx hy hV hl
  rwa [if_pos hi,decide_eq_true hi,hv] at this
end
end Go.Gx
namespace Go.Gx
open Go.Proofs
theorem Box.rowD {w:World} {b:Nat} {t:TypeId} {cs:List Value} (h:Box w b t cs) (o:Nat) {k:Nat} (hl:(cs.drop o).length=k):∀ j,j<k→w.cell? ⟨b,0+o+j,none⟩=(cs.drop o)[j]? := fun j hj=>by
  have hj':o+j<cs.length:=by rw [List.length_drop] at hl;omega
  rw [List.getElem?_drop,List.getElem?_eq_getElem hj',Nat.zero_add];exact h.cell (List.getElem?_eq_getElem hj')
theorem RecRow.rowD {α : Type} [Inhabited α] {C:Thing α} {k:Nat} {A:Nat→Prop} {w:World} {b o:Nat} {row:Nat→List Value} {l:List α} (h:RecRow C k A w (some ⟨b,o,none⟩) row l) {i:Nat} (hi:i<l.length) (off:Nat) {m:Nat} (hl:((row i).drop off).length=m):
    ∀ j,j<m→w.cell? ⟨b,o+i * k+off+j,none⟩=((row i).drop off)[j]? := fun j hj=>by
  have hj':off+j<(row i).length:=by rw [List.length_drop] at hl;omega
  rw [List.getElem?_drop,List.getElem?_eq_getElem hj',Nat.add_assoc];exact h.cell hi (List.getElem?_eq_getElem hj')
section
variable {P:Program} {n:Nat} {Q:Post} {D:List Deferred} {E:Env} {w:World}
theorem x_eql0 {x y:Operand} {t u z e:TypeId} {p:Option Addr} {m c m' c':Nat} (hu:P.underlying u=some (.slice e)) (hx:ev E x=.slice p m c) (hy:ev E y=.slice none m' c'):X P (.binOp .eql u x y z) t E w (.bool p.isNone) w:=by
  unfold X;have h0:∀ d:Nat,(Op.equalIn (d+1) u (.slice p m c) (.slice none m' c')).run P w=.ok p.isNone w:=fun d=>by cases p <;> simp [Op.equalIn,run_underlying hu]
  have h1:=h0 9999;have h2:(binOp .eql u (.slice p m c) (.slice none m' c')).run P w=.ok (.bool p.isNone) w:=by
    simp only [binOp];simp [show Op.equal u (.slice p m c) (.slice none m' c')=Op.equalIn (9999+1) u (.slice p m c) (.slice none m' c') from rfl,h1]
  have hg:∀ d:Nat,(Op.eqGuardIn (d+1) u (.slice p m c) (.slice none m' c')).run P w=.ok false w:=fun d=>by simp [Op.eqGuardIn,run_underlying hu]
  simp [execOp,hx,hy,eqGuard,h2]
theorem addp (b o j:Nat):(⟨b,o,none⟩:Addr).add j=⟨b,o+j,none⟩:=by cases j <;> simp [Addr.add]
theorem flat_len {k:Nat}:∀ {rows:List (List Value)},(∀ r∈rows,r.length=k)→rows.flatten.length=rows.length * k
  | [],_=>by simp
  | r :: rows,h=>by
    rw [List.flatten_cons,List.length_append,h r (by simp),flat_len (fun q hq=>h q (by simp [hq])),List.length_cons,Nat.add_mul,Nat.one_mul,Nat.add_comm]
def HoldsN (w:World) (u:Value) (m:Nat) (news:List Value):Prop:=
  (∃ a c,u=.slice (some a) m c∧∀ j x,news[j]? = some x→w.cell? (a.add j)=some x)∨(∃ c,u=.slice none 0 c∧m=0∧news=[])
theorem HoldsN.carry {w':World} {u:Value} {m:Nat} {news:List Value} (h:HoldsN w u m news) (g:Bel w w'):HoldsN w' u m news:=by
  rcases h with ⟨a,c,rfl,h⟩ | h
  · exact .inl ⟨a,c,rfl,fun j x hj=>g.keep (h j x hj)⟩
  · exact .inr h
theorem holdsN_box {b k:Nat} {t:TypeId} {cs:List Value} (h:Box w b t cs):HoldsN w (.slice (some ⟨b,0,none⟩) k k) k cs:=.inl ⟨_,_,rfl,h.news⟩
theorem StrsAt.holds {A:Nat→Prop} {v:Value} {l:List Str} (h:StrsAt A w v l):HoldsN w v l.length (l.map S):=by
  obtain ⟨p,cap,rfl,h1,h2,h3,hx,h4⟩:=h;by_cases hl:l=[]
  · subst hl;cases p with
    | none=>exact .inr ⟨cap,rfl,rfl,rfl⟩
    | some a=>exact .inl ⟨a,cap,rfl,fun j x hj=>by simp at hj⟩
  · obtain ⟨b,o,rfl,-,hc⟩:=h4 hl;refine .inl ⟨_,cap,rfl,fun j x hj=>?_⟩;have hj':j<l.length:=by simpa using (List.getElem?_eq_some_iff.1 hj).1
    have e:=hc j hj';rw [List.getElem?_map,List.getElem?_eq_getElem hj'] at hj;simp only [Option.map_some,Option.some.injEq] at hj;rw [List.getD_eq_getElem?_getD,List.getElem?_eq_getElem hj',Option.getD_some] at e;rw [addp,e,hj]
theorem RecRow.holds {α : Type} [Inhabited α] {C:Thing α} {k:Nat} {A:Nat→Prop} {p:Option Addr} {row:Nat→List Value} {l:List α} {cap:Nat} (h:RecRow C k A w p row l):HoldsN w (.slice p l.length cap) l.length ((List.range l.length).map row).flatten:=by
  by_cases hl:l=[]
  · subst hl;cases p with
    | none=>exact .inr ⟨cap,rfl,rfl,rfl⟩
    | some a=>exact .inl ⟨a,cap,rfl,fun j x hj=>by simp at hj⟩
  · obtain ⟨b,o,rfl,-,hc⟩:=h.at_ hl;refine .inl ⟨_,cap,rfl,fun j x hj=>?_⟩;have hr:∀ r∈(List.range l.length).map row,r.length=k:=fun r hr=>by
      obtain ⟨i,hi,rfl⟩:=List.mem_map.1 hr;exact h.len i (by simpa using hi)
    have hlen:((List.range l.length).map row).flatten.length=l.length * k:=by rw [flat_len hr];simp
    have hk:0<k:=by
      have hlt:=(List.getElem?_eq_some_iff.1 hj).1;rcases Nat.eq_zero_or_pos k with h0 | h0
      · rw [hlen,h0,Nat.mul_zero] at hlt;omega
      · exact h0
    have hlt:=(List.getElem?_eq_some_iff.1 hj).1;rw [hlen] at hlt;have hi:j / k<l.length:=Nat.div_lt_of_lt_mul (by rw [Nat.mul_comm];exact hlt);have e:j / k * k+j % k=j:=by rw [Nat.mul_comm];exact Nat.div_add_mod j k
    have hf:=flatk hr (i:=j / k) (Nat.mod_lt j hk) (by simpa using hi);rw [e,hj] at hf;have hrow:((List.range l.length).map row).getD (j / k) []=row (j / k):=by simp [hi]
    rw [hrow] at hf;rw [addp,show o+j=o+j / k * k+j % k by omega,hc _ _ hi (Nat.mod_lt j hk),← hf]
theorem L.appendN {base:Nat} {e:TypeId} {sz:Nat} {v:Value} {k:Nat} {xs:List Value} {ops:Array Oper} {r:List Oper} {d:Nat} {x y:Operand} {T t:TypeId} {p:String} {af:Array Edge} {u:Value} {m:Nat} {news:List Value}
    (hu:P.underlying T=some (.slice e)) (he:elT P e sz=true) (hx:ev E x=v) (hy:ev E y=u) (hd:Nat.blt d n=true) (h:Own w base e sz v k xs)
    (hl:news.length=m * sz) (hn:HoldsN w u m news) (h1:∀ u∈news,u.oneCell'=true) (hk:(k+m) * 200≤140737488355328) (hb:base≤w.heap.size)
    (kk:∀ v' w',Own w' base e sz v' (k+m) (xs++news)→Gr (fun j=>some j=v.ownBlock) w w'→(v'.ownBlock=v.ownBlock∨v'.ownBlock=some w.heap.size)→L P n ops Q r D (upd E d v') w'):
    L P n ops Q (⟨some d,.call ⟨.builtin .append,#[x,y],#[T,T]⟩,t,p,af,none⟩ :: r) D E w:=by
  rcases hn with ⟨a,c,rfl,hn⟩ | ⟨c,rfl,rfl,rfl⟩
  · exact L.append hu he hx hy hd h hl hn h1 hk hb (fun v' w' a1 a2 _ a4=>kk v' w' a1 a2 a4)
  · obtain ⟨i,z,hi,-⟩:=elT_spec he;have hrun:(Builtin.append_ #[T,T] t #[v,.slice none 0 c]).run P w=.ok v w:=by
      rcases h.2 with ⟨rfl,rfl⟩ | ⟨g,cap,cur,rfl,_,_,hnc,_⟩
      · simp [Builtin.append_,run_underlying hu,sizeOf,typeInfo,hi,Builtin.lenOf,Builtin.firstCells]
      · simp [Builtin.append_,run_underlying hu,sizeOf,typeInfo,hi,Builtin.lenOf,Builtin.firstCells,hnc,storeCells]
    refine L.val (x_append hx hy hrun) hd (kk v w (by simpa using h) (Gr.refl _ _) (.inl rfl))
end
end Go.Gx
namespace Go.Gx
open Go.Proofs
theorem flatk_take {k:Nat} {rows:List (List Value)} (h:∀ r∈rows,r.length=k) (i:Nat):(rows.take i).flatten=rows.flatten.take (i * k)∧(rows.drop i).flatten=rows.flatten.drop (i * k):=by
  induction rows generalizing i with
  | nil=>simp
  | cons r rows ih=>
    have hr:=h r (by simp);cases i with
    | zero=>simp
    | succ i=>
      obtain ⟨h1,h2⟩:=ih (fun q hq=>h q (by simp [hq])) i;have e:(i+1) * k=k+i * k:=by rw [Nat.add_mul,Nat.one_mul,Nat.add_comm]
      constructor
      · rw [List.take_succ_cons,List.flatten_cons,List.flatten_cons,h1,e,List.take_append,hr,Nat.add_sub_cancel_left,List.take_of_length_le (l:=r) om_]
      · rw [List.drop_succ_cons,List.flatten_cons,h2,e,List.drop_append,hr,Nat.add_sub_cancel_left,List.drop_of_length_le (l:=r) om_,List.nil_append]
section
variable {w:World}
theorem HoldsN.take {p:Option Addr} {n cap sz:Nat} {xs:List Value} (h:HoldsN w (.slice p n cap) n xs) {k:Nat} (hk:k≤n):HoldsN w (.slice p k cap) k (xs.take (k * sz)):=by
  rcases h with ⟨a,c,e,hc⟩ | ⟨c,e,h0,hx⟩
  · cases e;exact .inl ⟨a,cap,rfl,fun j x hj=>hc j x (by rw [List.getElem?_take] at hj;split at hj;exact hj;cases hj)⟩
  · cases e;have:k=0:=by omega
    subst this;exact .inr ⟨cap,rfl,rfl,by simp⟩
theorem HoldsN.drop {p:Option Addr} {n cap sz:Nat} {xs:List Value} (h:HoldsN w (.slice p n cap) n xs) (hl:xs.length=n * sz) (hn:n≤cap) {k:Nat} (hk:k≤n):HoldsN w (.slice (if cap=k then p else p.map (·.add (k * sz))) (n - k) (cap - k)) (n - k) (xs.drop (k * sz)):=by
  rcases h with ⟨a,c,e,hc⟩ | ⟨c,e,h0,hx⟩
  · cases e;by_cases hck:cap=k
    · have hkn:k=n:=by omega
      rw [if_pos hck];refine .inl ⟨a,_,rfl,fun j x hj=>?_⟩;rw [List.drop_of_length_le (by rw [hl,hkn];exact Nat.le_refl _)] at hj;simp at hj
    · rw [if_neg hck];refine .inl ⟨_,_,rfl,fun j x hj=>?_⟩;rw [List.getElem?_drop] at hj;have h1:=hc _ x hj;obtain ⟨b,o,spot⟩:=a;have hlt:=(List.getElem?_eq_some_iff.1 hj).1;have hsp:spot=none:=by simpa [Addr.add] using World.cell?_spot (hc 0 _ (List.getElem?_eq_getElem (by omega:0<xs.length)))
      subst hsp;show w.cell? (((⟨b,o,none⟩:Addr).add (k * sz)).add j)=some x;rw [addp,addp];rw [addp] at h1;rw [← h1];congr 2;omega
  · cases e;have:k=0:=by omega
    subst this;refine .inr ⟨cap - 0,?_,rfl,by rw [hx];simp⟩;split <;> rfl
def RowsC {α : Type} [Inhabited α] (C:Thing α) (A:Nat→Prop) (w:World) (rows:List (List Value)) (l:List α):Prop:=rows.length=l.length∧∀ i,i<l.length→C A w (rows.getD i []) (l.getD i default)
theorem RowsC.append {α : Type} [Inhabited α] {C:Thing α} {A:Nat→Prop} {r r':List (List Value)} {l l':List α} (h:RowsC C A w r l) (h':RowsC C A w r' l'):RowsC C A w (r++r') (l++l'):=by
  refine ⟨by simp [h.1,h'.1],fun i hi=>?_⟩;simp only [List.getD_eq_getElem?_getD];by_cases hlt:i<l.length
  · rw [List.getElem?_append_left (by rw [h.1];exact hlt),List.getElem?_append_left hlt];have:=h.2 i hlt;simpa only [List.getD_eq_getElem?_getD] using this
  · rw [List.getElem?_append_right (by rw [h.1];omega),List.getElem?_append_right om_,h.1];have:=h'.2 (i - l.length) (by simp at hi;omega);simpa only [List.getD_eq_getElem?_getD] using this
theorem RowsC.one {α : Type} [Inhabited α] {C:Thing α} {A:Nat→Prop} {r:List Value} {x:α} (h:C A w r x):RowsC C A w [r] [x]:=⟨rfl,fun i hi=>by match i,hi with | 0,_=>exact h⟩
theorem RowsC.nil {α : Type} [Inhabited α] {C:Thing α} {A:Nat→Prop}:RowsC C A w [] ([]:List α):=⟨rfl,fun i hi=>absurd hi (by simp)⟩
theorem RowsC.take {α : Type} [Inhabited α] {C:Thing α} {A:Nat→Prop} {r:List (List Value)} {l:List α} (h:RowsC C A w r l) (k:Nat):RowsC C A w (r.take k) (l.take k):=by
  refine ⟨by simp [h.1],fun i hi=>?_⟩;have hi2:i<l.length∧i<k:=by rw [List.length_take] at hi;omega
  have:=h.2 i hi2.1;simp only [List.getD_eq_getElem?_getD] at this ⊢
  rwa [List.getElem?_take_of_lt hi2.2,List.getElem?_take_of_lt hi2.2]
theorem RowsC.drop {α : Type} [Inhabited α] {C:Thing α} {A:Nat→Prop} {r:List (List Value)} {l:List α} (h:RowsC C A w r l) (k:Nat):RowsC C A w (r.drop k) (l.drop k):=by
  refine ⟨by simp [h.1],fun i hi=>?_⟩;have hi2:k+i<l.length:=by rw [List.length_drop] at hi;omega
  have:=h.2 (k+i) hi2;simp only [List.getD_eq_getElem?_getD] at this ⊢
  rwa [List.getElem?_drop,List.getElem?_drop]
section
variable {α : Type} [Inhabited α] {C:Thing α} {k:Nat} [Car C k] {A A' R:Nat→Prop} {r:List (List Value)} {l:List α}
theorem RowsC.lens (h:RowsC C A w r l):∀ q∈r,q.length=k:=fun q hq=>by
  obtain ⟨i,hi,rfl⟩:=List.getElem_of_mem hq;have:=Car.len (h.2 i (by rw [← h.1];exact hi))
  rwa [List.getD_eq_getElem?_getD,List.getElem?_eq_getElem hi] at this
omit [Car C k] in
omit [Car C k] in
theorem RowsC.carryR {k:Nat} [Car C k] {w':World} (h:RowsC C A w r l) (g:Gr R w w') (hR:∀ j,R j→A j):RowsC C A w' r l:=⟨h.1,fun i hi=>Car.carryR (h.2 i hi) g hR⟩
omit [Car C k] in
theorem RowsC.carry {k:Nat} [Car C k] {w':World} (h:RowsC C A w r l) (g:Bel w w'):RowsC C A w' r l:=⟨h.1,fun i hi=>Car.carry (h.2 i hi) g⟩
omit [Car C k] in
theorem RowsC.mono {k:Nat} [Car C k] (h:RowsC C A w r l) (hA:∀ b,b<w.heap.size→A' b→A b):RowsC C A' w r l:=⟨h.1,fun i hi=>Car.mono (h.2 i hi) hA⟩
theorem RowsC.done {base:Nat} {e:TypeId} {v:Value} (h:RowsC C A w r l) (ho:Own w base e k v l.length r.flatten) (hl:l.length≤70368744177664) (hA:∀ j,A' j→A j) (hb:∀ j,base≤j→¬ A' j):RecsAt C k A' w v l:=
  RecOwn.done (A:=A) ⟨r,h.1,ho,fun i hi=>Car.len (h.2 i hi),h.2⟩ hl hA hb
theorem RowsC.doneB {base:Nat} {e:TypeId} {v:Value} (h:RowsC C A w r l) (ho:Own w base e k v l.length r.flatten) (hl:l.length≤70368744177664) (hA:∀ j,A' j→A j) (hb:∀ j,some j=v.ownBlock→¬ A' j):RecsAt C k A' w v l:=by
  have h1:=h.done (A':=fun j=>A' j∧j<base) ho hl (fun j hj=>hA j hj.1) (fun j h1 h2=>by omega);obtain ⟨p,cap,row,e1,g1,g2,g3,hR⟩:=h1;refine ⟨p,cap,row,e1,g1,g2,g3,fun hne=>?_,hR.len,fun i hi=>?_⟩
  · obtain ⟨b,o,hp,-,hc⟩:=hR.at_ hne;exact ⟨b,o,hp,hb b (by rw [e1,hp];rfl),hc⟩
  · obtain ⟨b,o,hp,-,hc⟩:=hR.at_ (by rintro rfl;simp at hi);have hrow:row i=r.getD i []:=by
      rcases Own.open ho with ⟨h1,h2,h3⟩ | ⟨g,cp,tl,h1,-,-,-,hbx⟩
      · rw [h2] at hi;omega
      · have hr:∀ q∈r,q.length=k:=h.lens;rw [h1,hp] at e1;simp only [Value.slice.injEq,Option.some.injEq,Addr.mk.injEq,and_true] at e1;obtain ⟨⟨rfl,rfl⟩,-⟩:=e1;have hri:i<r.length:=by rw [h.1];exact hi
        have hl1:(r.getD i []).length=k:=Car.len (h.2 i hi);apply List.ext_getElem?;intro j;by_cases hj:j<k
        · rw [← hc i j hi hj,Nat.zero_add,← flatk hr hj hri];have hv:(r.getD i [])[j]? = some ((r.getD i [])[j]'om_):=List.getElem?_eq_getElem om_;have hf:=flatk hr hj hri;rw [hv] at hf;have hlt:i * k+j<r.flatten.length:=(List.getElem?_eq_some_iff.1 hf).1;rw [hf];exact hbx.cell (by rw [List.getElem?_append_left hlt];exact hf)
        · rw [List.getElem?_eq_none (by rw [hR.len i hi];omega),List.getElem?_eq_none om_]
    rw [hrow];exact Car.mono (h.2 i hi) fun j _ hj=>hA j hj
omit [Car C k] in
theorem own_box_ne {base sz n:Nat} {e T:TypeId} {v:Value} {xs cs:List Value} {b:Nat} (h:Own w base e sz v n xs) (hb:Box w b T cs) (hne:Nat.beq e T=false):¬ some b=v.ownBlock:=fun hj=>by
  rcases h.2 with ⟨rfl,-⟩ | ⟨g,cap,cur,rfl,-,hg,-⟩
  · simp [Value.ownBlock] at hj
  · simp [Value.ownBlock] at hj;subst hj;unfold Box at hb;rw [hb] at hg;have:T=e:=by simp at hg;exact hg.2
    subst this;simp at hne
end
end
end Go.Gx
namespace Go.Gx
variable {P:Program} {ops:Array Oper} {Q:Exit→Act→World→Prop} {C:World→Prop}
def YF (P:Program) (ops:Array Oper) (C:World→Prop) (o:Oper) (v:Value) (a:Act):Prop:=
  (Region.wanted o (yielded ops a.tmps)=true∧∀ w,C w→(execOp a.eval o).run P w=.ok (.value v) w)∨(Region.wanted o (yielded ops a.tmps)=false∧v=undef)
theorem YF.same {o:Oper} {v:Value} {a a':Act} (hy:YF P ops C o v a) (he:execOp a'.eval o=execOp a.eval o) (hw:Region.wanted o (yielded ops a'.tmps)=Region.wanted o (yielded ops a.tmps)):YF P ops C o v a':=by
  unfold YF at *;rw [he,hw];exact hy
theorem YF.take {i:Nat} {o:Oper} {v:Value} {a:Act} (hi:ops[i]? = some o) (hy:YF P ops C o v a) {K:Act→World→Prop} {w:World} (hC:C w) (h:K (a.put o.dst v) w):wpOp P ops Q i K a w:=by
  unfold wpOp;rcases hy with ⟨h1,h2⟩ | ⟨h1,rfl⟩
  · simp only [hi,h1,if_true,Oper.wp,h2 w hC,Oper.upon];exact .inl h
  · simp only [hi];rw [if_neg (by rw [h1];simp)];exact h
theorem wpOp_lateF {j:Nat} {oi oj:Oper} {v:Value} (hj:ops[j]? = some oj) (hap:oi.apart ops oj=true)
    (hsi:∀ cs b,oi.op≠.select cs b) (hsj:∀ cs b,oj.op≠.select cs b)
    (hQ:∀ c a w,Q (.panic c) (a.put oi.dst v) w→Q (.panic c) a w) {K:Act→World→Prop} {a:Act} {w:World}
    (hy:YF P ops C oi v a) (h:wpOp P ops Q j K (a.put oi.dst v) w):
    wpOp P ops Q j (fun a' w'=>YF P ops C oi v a'∧K (a'.put oi.dst v) w') a w:=by
  obtain ⟨h1,h2,h3⟩:=Oper.apart_spec hap;have keep:∀ u,YF P ops C oi v (a.put oj.dst u):=fun u=>hy.same (execOp_put oi hsi a oj.dst u h3) (wanted_put oi a oj.dst u h3)
  have hw1:=wanted_put oj a oi.dst v h1;have he1:=execOp_put oj hsj a oi.dst v h1;unfold wpOp at h ⊢;simp only [hj] at h ⊢;rw [hw1] at h;by_cases hw:Region.wanted oj (yielded ops a.tmps)=true
  · rw [if_pos hw] at h ⊢;rcases h with h | ⟨ha,hl⟩
    · left;unfold Oper.wp at h ⊢;rw [he1] at h;generalize (execOp a.eval oj).run P w=r at h ⊢;cases r with
      | halt x w'=>
        cases x with
        | panic u=>exact hQ _ _ _ h
        | _=>exact h
      | ok x w'=>
        cases x with
        | value u=>exact ⟨keep u,by rw [← Act.put_comm a v u h2];exact h⟩
        | skip=>exact ⟨keep _,by rw [← Act.put_comm a v undef h2];exact h⟩
        | defer d=>
          refine ⟨(hy.same (a':={ a with defers:=d :: a.defers }) rfl rfl).same (execOp_put oi hsi _ oj.dst _ h3) (wanted_put oi _ oj.dst _ h3),?_⟩;rw [← Act.put_comm _ v undef h2,← Act.put_defers];exact h
        | enter f args=>
          refine Calls.mono h fun e w'' he=>?_
          cases e with
          | returned u=>exact ⟨keep u,by rw [← Act.put_comm a v u h2];exact he⟩
          | panicked c=>exact hQ _ _ _ he
          | outgrown=>exact he
        | row row args=>exact Rows.mono h fun u w'' he=>⟨keep u,by rw [← Act.put_comm a v u h2];exact he⟩
        | _=>exact h
    · exact .inr ⟨by unfold Oper.asks at *;rw [he1] at ha;exact ha,hl⟩
  · rw [if_neg hw] at h ⊢;exact ⟨keep _,by rw [← Act.put_comm a v undef h2];exact h⟩
theorem getD_out {listed:Array Bool} {st:Nat} (h:listed.size≤st):listed.getD st false=false:=by
  simp [Array.getElem?_eq_none h]
theorem wpAnyC.takeF {i st:Nat} {oi:Oper} {v:Value} (hi:ops[i]? = some oi) (hsel:∀ (j:Nat) (o:Oper) cs b,ops[j]? = some o→o.op≠.select cs b)
    (hQ:∀ c a w,Q (.panic c) (a.put oi.dst v) w→Q (.panic c) a w):
    ∀ (fuel:Nat) (listed:Array Bool) (a:Act) (w:World),listed.size≤st→
      (∀ j oj,ops[j]? = some oj→j≠i→listed.getD j true=false→(∀ e∈oj.after,Region.binds .any e=true→e.on≠i)→oi.apart ops oj=true)→
      i∈Region.ready .any ops listed→YF P ops C oi v a→
      wpAnyC P ops C st Q fuel (listed.setIfInBounds i true) (a.put oi.dst v) w→wpAnyC P ops C st Q (fuel+1) listed a w:=by
  intro fuel;induction fuel with
  | zero=>
    intro listed a w hsz _ hr hy H;have hC:C w:=H.1 (getD_out (by simpa using hsz));refine ⟨fun _=>hC,fun h=>(by rw [h] at hr;cases hr),fun j hj=>?_⟩;by_cases hji:j=i
    · subst hji;exact hy.take hi hC H
    · have:=ready_mono hj hji;rw [H.2.1] at this;cases this
  | succ fuel ih=>
    intro listed a w hsz hfree hr hy H;have hun:=(mem_ready.1 hr).1;have hC:C w:=H.here (getD_out (by simpa using hsz));refine ⟨fun _=>hC,fun h=>(by rw [h] at hr;cases hr),fun j hj=>?_⟩;by_cases hji:j=i
    · subst hji;exact hy.take hi hC H
    · have h1:=H.2.2 j (ready_mono hj hji);obtain ⟨hjun,oj,hoj,hall⟩:=mem_ready.1 hj;have hnot:∀ e∈oj.after,Region.binds .any e=true→e.on≠i:=fun e he hb heq=>by
        have h1:=hall e he hb;rw [heq,unlisted hun] at h1;cases h1
      have h2:=wpOp_lateF hoj (hfree j oj hoj hji hjun hnot) (fun cs b=>hsel i oi cs b hi) (fun cs b=>hsel j oj cs b hoj) hQ hy h1;refine wpOp_mono (fun a' w' h3=>ih (listed.setIfInBounds j true) a' w' (by simpa using hsz) (fun k ok hk hki hu hno=>?_) (ready_mono hr (Ne.symm hji)) h3.1 ?_) h2
      · refine hfree k ok hk hki ?_ hno;by_cases hjk:j=k
        · subst hjk;exact hjun
        · rw [getD_set_ne true hjk] at hu;exact hu
      · rw [Array.setIfInBounds_comm _ _ hji];exact h3.2
section
variable {n st:Nat} {K:List Deferred→Env→World→Prop} {D:List Deferred} {E:Env} {w:World}
theorem LAC.takeY {fuel:Nat} {listed:Array Bool} {i d:Nat} {o:Oper} {v:Value}
    (ho:ops[i]? = some o) (hod:o.dst=some d) (hs:Region.noSelect ops=true) (hf:Region.free .any ops listed i=true) (hr:(Region.ready .any ops listed).contains i=true) (hz:Nat.ble listed.size st=true)
    (hx:∀ a,Fr D n a E→YF P ops C o v a) (hd:Nat.blt d n=true) (k:LAC P n ops C st K fuel (listed.setIfInBounds i true) D (upd E d v) w):LAC P n ops C st K (fuel+1) listed D E w:=by
  intro a ha;refine wpAnyC.takeF ho (Region.noSelect_spec hs) ?_ fuel listed a w (Nat.le_of_ble_eq_true hz) (Region.free_spec ho hf) (by simpa using hr) (hx a ha) ?_
  · rintro c a w ⟨_,E,_,h,_⟩;cases h
  · rw [hod];exact k _ (ha.put v hd)
theorem LAC.takeN {fuel:Nat} {listed:Array Bool} {i d:Nat} {op:Op} {t:TypeId} {p:String} {af:Array Edge} {v:Value}
    (ho:ops[i]? = some ⟨some d,op,t,p,af,none⟩) (hs:Region.noSelect ops=true) (hf:Region.free .any ops listed i=true) (hr:(Region.ready .any ops listed).contains i=true) (hz:Nat.ble listed.size st=true)
    (hx:∀ w,C w→X P op t E w v w) (hd:Nat.blt d n=true) (k:LAC P n ops C st K fuel (listed.setIfInBounds i true) D (upd E d v) w):LAC P n ops C st K (fuel+1) listed D E w:=
  LAC.takeY ho rfl hs hf hr hz (fun a ha=>.inl ⟨by simp [Region.wanted],fun w hw=>by
    have:=hx w hw;unfold X at this;rw [execOp_bare,ha.eval];exact this⟩) hd k
theorem LAC.takeG {fuel:Nat} {listed:Array Bool} {i d j dj:Nat} {op:Op} {t:TypeId} {p:String} {af:Array Edge} {v:Value} {want b:Bool}
    (ho:ops[i]? = some ⟨some d,op,t,p,af,some (j,want)⟩) (hs:Region.noSelect ops=true) (hf:Region.free .any ops listed i=true) (hr:(Region.ready .any ops listed).contains i=true) (hz:Nat.ble listed.size st=true)
    (hj:(ops[j]?).bind (·.dst)=some dj) (hE:E dj=.bool b) (hb:b=want)
    (hx:∀ w,C w→X P op t E w v w) (hd:Nat.blt d n=true) (k:LAC P n ops C st K fuel (listed.setIfInBounds i true) D (upd E d v) w):LAC P n ops C st K (fuel+1) listed D E w:=
  LAC.takeY ho rfl hs hf hr hz (fun a ha=>.inl ⟨wanted_yes rfl hj ha (hb ▸ hE),fun w hw=>by
    have:=hx w hw;unfold X at this;rw [execOp_bare,ha.eval];exact this⟩) hd k
theorem LAC.takeU {fuel:Nat} {listed:Array Bool} {i d j dj:Nat} {op:Op} {t:TypeId} {p:String} {af:Array Edge} {want b:Bool}
    (ho:ops[i]? = some ⟨some d,op,t,p,af,some (j,want)⟩) (hs:Region.noSelect ops=true) (hf:Region.free .any ops listed i=true) (hr:(Region.ready .any ops listed).contains i=true) (hz:Nat.ble listed.size st=true)
    (hj:(ops[j]?).bind (·.dst)=some dj) (hE:E dj=.bool b) (hb:b=!want)
    (hd:Nat.blt d n=true) (k:LAC P n ops C st K fuel (listed.setIfInBounds i true) D (upd E d undef) w):LAC P n ops C st K (fuel+1) listed D E w:=
  LAC.takeY ho rfl hs hf hr hz (fun _ ha=>.inr ⟨wanted_no rfl hj ha hE hb,rfl⟩) hd k
theorem LAC.takeUU {fuel:Nat} {listed:Array Bool} {i d j dj:Nat} {op:Op} {t:TypeId} {p:String} {af:Array Edge} {want:Bool}
    (ho:ops[i]? = some ⟨some d,op,t,p,af,some (j,want)⟩) (hs:Region.noSelect ops=true) (hf:Region.free .any ops listed i=true) (hr:(Region.ready .any ops listed).contains i=true) (hz:Nat.ble listed.size st=true)
    (hj:(ops[j]?).bind (·.dst)=some dj) (hE:E dj=undef)
    (hd:Nat.blt d n=true) (k:LAC P n ops C st K fuel (listed.setIfInBounds i true) D (upd E d undef) w):LAC P n ops C st K (fuel+1) listed D E w:=
  LAC.takeY ho rfl hs hf hr hz (fun _ ha=>.inr ⟨wanted_undef rfl hj ha hE,rfl⟩) hd k
theorem LAC.split {fuel:Nat} {listed:Array Bool} {dj:Nat} {b:Bool} (_hE:E dj=.bool b) (ht:b=true→LAC P n ops C st K fuel listed D E w) (hf:b=false→LAC P n ops C st K fuel listed D E w):LAC P n ops C st K fuel listed D E w:=by
  cases b
  · exact hf rfl
  · exact ht rfl
theorem LAC.doneF {listed:Array Bool} (hr:Region.ready .any ops listed=[]) (hC:C w) (h:K D E w):LAC P n ops C st K 0 listed D E w:=
  fun _ ha=>⟨fun _=>hC,hr,lift_mk (by simp) ha ⟨rfl,h⟩⟩
theorem W.drawF {id:Nat} {l:List Oper} {Q:Post} (st:Nat) (hm:P.follows .mixedOrders=true) (h:∀ w1,Bel w w1→LAC P n l.toArray (Bel w) st (Q .normal) l.length (Array.replicate l.length false) D E w1):W P n (.region id l.toArray true) Q D E w:=
  W.drawT (Bel w) st hm (h _ (bel_drew _))
end
end Go.Gx
