/- Sort: a type that is right is put in its order, any other stays. Conditions: none. -/
import Derived.WideMake
import Derived.MapKept
import Derived.Maps.RangeRun
import Derived.Laws.Externs
import Derived.RangeFuncSeq
import Derived.Test.YtjhcicmlpnkgeaaGreatMSort2
import Derived.Test.YtjhcicmlpnkgeaaGreatMSeq
import Derived.Test.YtjhcicmlpnkgeaaGreatMIns
import Derived.Test.YtjhcicmlpnkgeaaGreatMColl
namespace Go.Gx
open Go.Proofs
theorem ksort3_ag25:aggT Tryz.prog 25 5=true:=by kernel_rfl
theorem ksort3_en18:Go.Proofs.Enters Tryz.prog 18:=Go.Proofs.enters_of Tryz.func18 kr_ rfl
theorem ksort3_en34:Go.Proofs.Enters Tryz.prog 34:=Go.Proofs.enters_of Tryz.func34 kr_ rfl
theorem ksort3_zr25:(Tryz.prog.info? 25).bind (·.zero)=some (Value.agg [Value.int .i64 0,S [],S [],Value.slice none 0 0,Value.slice none 0 0].toArray):=by kernel_rfl
theorem check_zero {s:Sh} (h:checkS s=0):s.size≤400∧s.deep≤40∧s.allB fitsS=true:=by
  unfold checkS at h;split at h
  · cases h
  · split at h
    · cases h
    · split at h
      · cases h
      · next h1 h2 h3=>exact ⟨by omega,by omega,by simpa using h3⟩
def sortS (s:Sh):Sh:=if checkS s=0 then s.sort else s
theorem sort_okL (A:Nat→Prop) (s:Sh) (cs:List Value) (w:World) (hs:ShC A w cs s):
    Ret Tryz.prog 20 #[.agg cs.toArray] w fun v w'=>∃ cs',v=.agg cs'.toArray∧ShC (fun k=>A k∧k<w.heap.size) w' cs' (sortS s)∧Bel w w':=by
  obtain ⟨A1,hs,hA1,hU⟩:∃ A1:Nat→Prop,ShC A1 w cs s∧(∀ k,A k→A1 k)∧(∀ k,w.heap.size≤k→A1 k):=⟨_,hs.up,fun _=>.inl,fun _=>.inr⟩;have hlen:=hs.len;refine ret_of_W_R Tryz.func20 rfl (Nat.le_of_ble_eq_true rfl) ?_;have hB:=Gr.refl (fun _=>False) w;refine W.seq (W.region (L.box (cs:=cs) rfl rfl (fun w1 bx1 hw hz1=>?_)));have hB:=hB.carry hw;have hs:=hs.carry hw;refine L.alloc (cs:=[Value.int .i64 0,S [],S [],Value.slice none 0 0,Value.slice none 0 0]) ksort3_zr25 rfl rfl (fun w2 bx2 hw hz2=>?_);have hB:=hB.carry hw;have hs:=hs.carry hw;have bx1:=bx1.carry hw;refine L.nil (thn_n (W.seq (W.seq (W.region (L.val (x_ldn (vs:=cs) ksort3_ag25 rfl hlen (bx1.row hlen)) rfl ?_)))));refine L.ret (x_call ksort3_en18 rfl) rfl (checkL A1 s _ _ hs) ?_;rintro _ w4 ⟨rfl,hw⟩;have hB:=hB.carry hw;have hs:=hs.carry hw;have bx1:=bx1.carry hw;have bx2:=bx2.carry hw;refine L.val (x_neq rfl rfl) rfl ?_;refine L.nil (thn_n (W.cond (b:=_) rfl (fun g5=>?_) (fun g5=>?_)))
  ·have h5:=dne_t g5;refine W.seq (W.region (L.val (x_ldn (vs:=cs) ksort3_ag25 rfl hlen (bx1.row hlen)) rfl ?_));refine L.setRow ksort3_ag25 rfl rfl bx2 rfl hlen hs.one (fun wl7 bx2 hw hzl7=>?_);have hsz:=hB.size;have hB:=hB.set hw om_;have hs:=hs.carryR hw (fun k e=>hU k (by have:k=_:=e;omega));have bx1:=bx1.carryR hw om_;refine L.nil (thn_n (W.ret (thn_r (finR_mk (.inr rfl) ?_))));refine ⟨_,resS rfl ksort3_ag25 rfl bx2 hlen,_,rfl,?_,hB⟩;rw [sortS,if_neg h5];exact hs.mono (fun j _ h=>hA1 j h.1)
  ·have h5:=dne_f g5;refine W.skip (thn_n (W.seq (W.region (L.val (x_ldn (vs:=cs) ksort3_ag25 rfl hlen (bx1.row hlen)) rfl ?_))));have hbc:=hB.size;have hb2:=bx2.lt;refine L.ret (x_call ksort3_en34 rfl) rfl (sorted0 _ s (Nat.lt_succ_self _) (check_zero h5).1 (check_zero h5).2.2 A1 _ _ hs) ?_;rintro _ w8 ⟨cs8,rfl,ht,hw⟩;have hB:=hB.carry hw;have hs:=hs.carry hw;have bx1:=bx1.carry hw;have bx2:=bx2.carry hw;refine L.setRow ksort3_ag25 rfl rfl bx2 rfl ht.len ht.one (fun wl10 bx2 hw hzl10=>?_);have hsz:=hB.size;have hB:=hB.set hw om_;have hs:=hs.carryR hw (fun k e=>hU k (by have:k=_:=e;omega));have bx1:=bx1.carryR hw om_;have ht:=ht.carryR hw (fun k e=>by have e:k=w1.heap.size:=e;show k<_;omega);refine L.nil (thn_n (W.ret (finR_mk (.inr rfl) ?_)));refine ⟨_,resS rfl ksort3_ag25 rfl bx2 ht.len,_,rfl,?_,hB⟩;rw [sortS,if_pos h5];exact ht.mono (fun j _ h=>by show j<_;omega)
end Go.Gx
namespace Go.Gx
open Go.Proofs
def idxS (x:Str):List Str→Nat
  | []=>0
  | y :: l=>if y=x then 0 else idxS x l+1
theorem idxOf_at {x:Str}:∀ {l:List Str} {k:Nat},k<l.length→l.getD k []=x→(∀ j,j<k→l.getD j []≠x)→idxS x l=k
  | [],_,h,_,_=>absurd h (by simp)
  | y :: l,0,_,h,_=>by
    have h:y=x:=by simpa using h
    rw [idxS,if_pos h]
  | y :: l,k+1,h,h1,h2=>by
    have hy:y≠x:=by simpa using h2 0 om_
    have ih:=idxOf_at (x:=x) (l:=l) (k:=k) (by simpa using h) (by simpa using h1) (fun j hj=>by simpa using h2 (j+1) om_);rw [idxS,if_neg hy,ih]
theorem idxOf_no {x:Str}:∀ {l:List Str},(∀ j,j<l.length→l.getD j []≠x)→idxS x l=l.length
  | [],_=>rfl
  | y :: l,h=>by
    have hy:y≠x:=by simpa using h 0 (by simp)
    rw [idxS,if_neg hy,idxOf_no (fun j hj=>by simpa using h (j+1) (by simpa using hj))];rfl
theorem idxS_lt {x:Str}:∀ {l:List Str},idxS x l<l.length↔x∈l
  | []=>by simp [idxS]
  | y :: l=>by
    rw [idxS,List.mem_cons];split
    · next h=>simp [h]
    · next h=>
      have:=idxS_lt (x:=x) (l:=l);have e:¬ x=y:=fun e=>h e.symm
      simp [← this,e]
theorem idxS_get {x:Str}:∀ {l:List Str},idxS x l<l.length→l.getD (idxS x l) []=x
  | [],h=>absurd h (by simp)
  | y :: l,h=>by
    rw [idxS] at h ⊢;split
    · next e=>simp [e]
    · next e=>
      rw [if_neg e] at h;have:=idxS_get (x:=x) (l:=l) (by simpa using h);simpa using this
def partS (s:Sh) (x:Str):Option Sh:=if idxS x s.names<s.names.length then some (s.parts.getD (idxS x s.names) default) else none
end Go.Gx
namespace Go.Gx
open Go.Proofs
variable {P:Program} {n:Nat} {Q:Post} {D:List Deferred} {E:Env} {w:World}
def idxM (x:Str):List (Str × Value)→Nat
  | []=>0
  | y :: l=>if y.1=x then 0 else idxM x l+1
def valM (l:List (Str × Value)) (i:Nat):Value:=(l.map (·.2)).getD i undef
def putM (l:List (Str × Value)) (x:Str) (v:Value):List (Str × Value):=if idxM x l<l.length then l.set (idxM x l) (x,v) else l++[(x,v)]
def kvM (e:MapEntry):Value × Value:=(e.key,e.val)
def MapIs (es:Array MapEntry) (clock:Nat) (l:List (Str × Value)):Prop:=es.toList.map kvM=l.map (fun x=>(S x.1,x.2))∧(es.toList.map (·.born)).Nodup∧∀ n∈es.toList.map (·.born),n<clock
def MapAt (w:World) (b:Nat) (l:List (Str × Value)):Prop:=∃ es clock,w.heap[b]? = some (.map es clock)∧MapIs es clock l
theorem MapAt.lt {b:Nat} {l:List (Str × Value)} (h:MapAt w b l):b<w.heap.size:=by
  obtain ⟨es,c,h,-⟩:=h;exact (Array.getElem?_eq_some_iff.1 h).1
theorem MapAt.carryR {R:Nat→Prop} {w':World} {b:Nat} {l:List (Str × Value)} (h:MapAt w b l) (g:Gr R w w') (hn:¬ R b):MapAt w' b l:=by
  have hlt:=h.lt;obtain ⟨es,c,h,hm⟩:=h;exact ⟨es,c,(g.block b hlt hn).trans h,hm⟩
theorem MapAt.carry {w':World} {b:Nat} {l:List (Str × Value)} (h:MapAt w b l) (g:Bel w w'):MapAt w' b l:=h.carryR g fun f=>f
theorem same_str (a b:Str):Instr.sameNow .string (S a) (S b)=some (decide (b=a)):=by
  show some ((⟨a.toArray⟩:ByteArray) == ⟨b.toArray⟩)=_;have h:((⟨a.toArray⟩:ByteArray) == ⟨b.toArray⟩)=(a.toArray == b.toArray):=rfl;rw [h,Option.some.injEq,Bool.eq_iff_iff,beq_iff_eq,decide_eq_true_eq];exact ⟨fun e=>(by simpa using congrArg Array.toList e.symm),fun e=>by rw [e]⟩
theorem find_str {x:Str}:∀ {es:List MapEntry} {l:List (Str × Value)} (i:Nat),es.map kvM=l.map (fun x=>(S x.1,x.2))→
    Instr.findNow .string (S x) es i=some (if idxM x l<l.length then some (i+idxM x l,valM l (idxM x l)) else none)
  | [],[],i,_=>rfl
  | [],y :: l,i,h=>by simp at h
  | e :: es,[],i,h=>by simp at h
  | e :: es,y :: l,i,h=>by
    simp only [List.map_cons,List.cons.injEq,kvM,Prod.mk.injEq] at h;obtain ⟨⟨hk,hv⟩,ht⟩:=h;have ih:=find_str (x:=x) (i+1) ht;unfold Instr.findNow;rw [hk,same_str];by_cases hy:y.1=x
    · rw [show idxM x (y :: l)=0 by rw [idxM,if_pos hy]];simp [hy,valM,hv]
    · rw [show idxM x (y :: l)=idxM x l+1 by rw [idxM,if_neg hy]];simp only [hy,decide_false,ih,List.length_cons];by_cases hl:idxM x l<l.length
      · rw [if_pos hl,if_pos om_];simp [valM];omega
      · rw [if_neg hl,if_neg om_]
section
variable {t kt et:TypeId}
theorem check_str (e:Bool) (x:Str) (w:World) (hk:P.underlying kt=some .string):(Instr.checkKey e 10000 kt (S x)).run P w=.ok () w:=MapKept.run_checkKey (k:=S x) hk (by simp [MapKept.IsKey,S]) e 9999
theorem x_lookup {m x:Operand} {ty:TypeId} {b:Nat} {l:List (Str × Value)} {k:Str} {z:Value} (hm:P.underlying t=some (.map kt et)) (hk:P.underlying kt=some .string) (hz:(P.info? et).bind (·.zero)=some z)
    (hx:ev E m=.map (some b)) (hy:ev E x=S k) (hl:MapAt w b l):X P (.lookup t m x true) ty E w (.tuple #[if idxM k l<l.length then valM l (idxM k l) else z,.bool (decide (idxM k l<l.length))]) w:=by
  obtain ⟨es,c,hb,hes,-⟩:=hl;have hf:=find_str (x:=k) 0 hes;have hzr:∀ w,(zeroValue et).run P w=.ok z w:=fun w=>by
    cases hi:P.info? et with
    | none=>simp [hi] at hz
    | some i=>
      simp [hi] at hz;simp [zeroValue,typeInfo,hi,hz]
  unfold X;by_cases h:idxM k l<l.length
  · rw [if_pos h] at hf;simp [execOp,hx,hy,Instr.lookup,run_underlying hm,MapKept.run_getObj_map hb,check_str _ k w hk,MapKept.run_findKey hk hf,h,Result.andThen]
  · rw [if_neg h] at hf;simp [execOp,hx,hy,Instr.lookup,run_underlying hm,MapKept.run_getObj_map hb,check_str _ k w hk,MapKept.run_findKey hk hf,h,hzr,Result.andThen]
theorem L.mkmap {t kt et ty:TypeId} {ops:Array Oper} {r:List Oper} {d:Nat} {x:Operand} {p:String} {af:Array Edge} {k:IntKind} {i:Int} (hm:P.underlying t=some (.map kt et)) (hx:ev E x=.int k i) (hd:Nat.blt d n=true)
    (kk:∀ w1,MapAt w1 w.heap.size []→Bel w w1→w1.heap.size=w.heap.size+1→L P n ops Q r D (upd E d (.map (some w.heap.size))) w1):
    L P n ops Q (⟨some d,.makeMap t (some x),ty,p,af,none⟩ :: r) D E w:=by
  have hX:X P (.makeMap t (some x)) ty E w (.map (some w.heap.size)) (w.alloc (.map #[] 0)):=by
    unfold X;simp [execOp,hx,Instr.makeMap,run_underlying hm,asInt,asIntOf,Result.andThen]
  refine L.val hX hd (kk _ ⟨#[],0,by rw [← World.alloc_eq];simp,rfl,by simp,by simp⟩ (gr_of (row:=none) (World.grownBy_alloc w _ none) |>.mono (fun _ _ h=>by cases h)) (by simp))
theorem sameBits_str (a:Str):Instr.sameBits 10000 (S a) (S a)=true:=by
  show ((⟨a.toArray⟩:ByteArray) == ⟨a.toArray⟩)=true;have h:((⟨a.toArray⟩:ByteArray) == ⟨a.toArray⟩)=(a.toArray == a.toArray):=rfl;rw [h,beq_iff_eq]
theorem set_kv {es:List MapEntry} {l:List (Str × Value)} {i:Nat} {x:Str} {v:Value} (h:es.map kvM=l.map fun x=>(S x.1,x.2)):
    (es.modify i fun e=>{ e with key:=S x,val:=v }).map kvM=(l.set i (x,v)).map fun x=>(S x.1,x.2):=by
  induction es generalizing l i with
  | nil=>cases l with
    | nil=>simp
    | cons=>simp at h
  | cons e es ih=>cases l with
    | nil=>simp at h
    | cons y l=>
      simp only [List.map_cons,List.cons.injEq] at h;cases i with
      | zero=>simp [kvM,h.2]
      | succ i=>simp only [List.modify_succ_cons,List.set_cons_succ,List.map_cons,h.1,ih h.2]
theorem born_modify {es:List MapEntry} {i:Nat} {k v:Value}:(es.modify i fun e=>{ e with key:=k,val:=v }).map (·.born)=es.map (·.born):=by
  induction es generalizing i with
  | nil=>simp
  | cons e es ih=>
    cases i with
    | zero=>simp
    | succ i=>simp only [List.modify_succ_cons,List.map_cons,ih]
theorem L.mapset {t kt et ty:TypeId} {ops:Array Oper} {r:List Oper} {m x y:Operand} {p:String} {af:Array Edge} {b:Nat} {l:List (Str × Value)} {k:Str} {v:Value} (hm:P.underlying t=some (.map kt et)) (hk:P.underlying kt=some .string)
    (hx:ev E m=.map (some b)) (hy:ev E x=S k) (hv:ev E y=v) (hl:MapAt w b l)
    (kk:∀ w1,MapAt w1 b (putM l k v)→Gr (· = b) w w1→w1.heap.size=w.heap.size→L P n ops Q r D E w1):
    L P n ops Q (⟨none,.mapUpdate t m x y,ty,p,af,none⟩ :: r) D E w:=by
  have hlt:=hl.lt;obtain ⟨es,c,hb,hes,hn,hc⟩:=hl;have hf:=find_str (x:=k) 0 hes;have hkeep:∀ w o,Gr (· = b) w { w with heap:=w.heap.setIfInBounds b o }:=fun w o=>
    ⟨rfl,rfl,rfl,by simp,fun i _ hi=>by simp [Ne.symm hi]⟩
  by_cases h:idxM k l<l.length
  · rw [if_pos h,Nat.zero_add] at hf;have hkey:((es[idxM k l]?).map (·.key)).getD (S k)=S k:=by
      have hg:=congrArg (fun q:List (Value × Value)=>q[idxM k l]?) hes;simp only [List.getElem?_map] at hg;rw [List.getElem?_eq_getElem h] at hg;have hes2:es[idxM k l]? = es.toList[idxM k l]? := by simp
      rw [hes2];cases hq:es.toList[idxM k l]? with
      | none=>simp
      | some e=>
        rw [hq] at hg;simp only [Option.map_some,Option.some.injEq,kvM,Prod.mk.injEq] at hg;simp only [Option.map_some,Option.getD_some,hg.1];congr 1;have:∀ (l:List (Str × Value)) (h:idxM k l<l.length),(l[idxM k l]).1=k:=by
          intro l;induction l with
          | nil=>intro h;simp at h
          | cons y l ih=>
            intro h;by_cases hy:y.1=k
            · simp [idxM,hy]
            · have h2:idxM k l<l.length:=by rw [idxM,if_neg hy] at h;simpa using h
              simpa [idxM,hy] using ih h2
        exact this l h
    refine L.skip (w':={ w with heap:=w.heap.setIfInBounds b (.map (es.modify (idxM k l) fun e=>{ e with key:=S k,val:=v }) c) }) ?_ (kk _ ⟨es.modify (idxM k l) fun e=>{ e with key:=S k,val:=v },c,by simp [hlt],?_,by rw [Array.toList_modify,born_modify];exact hn,by rw [Array.toList_modify,born_modify];exact hc⟩ (hkeep _ _) (by simp))
    · unfold Xs;simp [execOp,hx,hy,hv,Instr.mapUpdate,run_underlying hm,MapKept.run_getObj_map hb,check_str _ k w hk,MapKept.run_findKey hk hf,Instr.keyThatStays,hkey,sameBits_str,MapKept.run_setObj_map _ hb,Result.andThen]
    · unfold putM;rw [if_pos h,Array.toList_modify];exact set_kv hes
  · rw [if_neg h] at hf;refine L.skip (w':={ w with heap:=w.heap.setIfInBounds b (.map (es.push { key:=S k,val:=v,born:=c }) (c+1)) }) ?_ (kk _ ⟨es.push { key:=S k,val:=v,born:=c },c+1,by simp [hlt],?_,?_,?_⟩ (hkeep _ _) (by simp))
    · unfold Xs;simp [execOp,hx,hy,hv,Instr.mapUpdate,run_underlying hm,MapKept.run_getObj_map hb,check_str _ k w hk,MapKept.run_findKey hk hf,MapKept.run_setObj_map _ hb,Result.andThen]
    · unfold putM;rw [if_neg h,Array.toList_push,List.map_append,hes];simp [kvM]
    · rw [Array.toList_push,List.map_append];refine List.nodup_append.2 ⟨hn,by simp,fun x hx y hy e=>?_⟩;have:=hc x hx;simp at hy;omega
    · rw [Array.toList_push,List.map_append];intro x hx;rcases List.mem_append.1 hx with hx | hx
      · have:=hc x hx;omega
      · simp at hx;omega
end
def fieldsF:Nat→List Str→List (Str × Value)
  | _,[]=>[]
  | n,x :: l=>(x,.int .i64 (n:Nat)) :: fieldsF (n+1) l
theorem fieldsF_len:∀ {l:List Str} {n:Nat},(fieldsF n l).length=l.length
  | [],_=>rfl
  | x :: l,n=>by simp [fieldsF,fieldsF_len]
theorem fieldsF_idx {x:Str}:∀ {l:List Str} {n:Nat},idxM x (fieldsF n l)=idxS x l
  | [],_=>rfl
  | y :: l,n=>by simp [fieldsF,idxM,idxS,fieldsF_idx]
theorem fieldsF_val:∀ {l:List Str} {n i:Nat},i<l.length→valM (fieldsF n l) i=.int .i64 ((n+i:Nat):Int)
  | [],_,_,h=>by simp at h
  | y :: l,n,0,_=>by simp [fieldsF,valM]
  | y :: l,n,i+1,h=>by
    have:=fieldsF_val (l:=l) (n:=n+1) (i:=i) (by simpa using h);unfold valM at this ⊢;simp only [fieldsF,List.map_cons,List.getD_cons_succ,this];congr 1;omega
theorem fieldsF_snoc {x:Str}:∀ {l:List Str} {n:Nat},fieldsF n (l++[x])=fieldsF n l++[(x,.int .i64 ((n+l.length:Nat):Int))]
  | [],n=>by simp [fieldsF]
  | y :: l,n=>by
    simp only [List.cons_append,fieldsF,fieldsF_snoc,List.length_cons];congr 5;omega
def FieldsAt (w:World) (b:Nat) (l:List Str):Prop:=MapAt w b (fieldsF 0 l)
theorem FieldsAt.carryR {R:Nat→Prop} {w':World} {b:Nat} {l:List Str} (h:FieldsAt w b l) (g:Gr R w w') (hn:¬ R b):FieldsAt w' b l:=MapAt.carryR h g hn
theorem FieldsAt.carry {w':World} {b:Nat} {l:List Str} (h:FieldsAt w b l) (g:Bel w w'):FieldsAt w' b l:=MapAt.carry h g
theorem FieldsAt.lt {b:Nat} {l:List Str} (h:FieldsAt w b l):b<w.heap.size:=MapAt.lt h
theorem fields_put {l:List Str} {k:Nat} (hd:l.Nodup) (hk:k<l.length):putM (fieldsF 0 (l.take k)) (l.getD k []) (.int .i64 (k:Nat))=fieldsF 0 (l.take (k+1)):=by
  have hno:¬ idxS (l.getD k []) (l.take k)<(l.take k).length:=by
    rw [idxS_lt];intro h;obtain ⟨i,hi,e⟩:=List.getElem_of_mem h;rw [List.getElem_take] at e;have hik:i<k:=by simp at hi;omega
    have e2:l.getD k []=l[k]:=by rw [List.getD_eq_getElem?_getD,List.getElem?_eq_getElem hk];rfl
    rw [e2] at e;exact (List.pairwise_iff_getElem.1 hd) i k om_ hk hik e
  unfold putM;rw [fieldsF_idx,fieldsF_len,if_neg hno,List.take_succ_eq_append_getElem hk,fieldsF_snoc];have e2:l.getD k []=l[k]:=by rw [List.getD_eq_getElem?_getD,List.getElem?_eq_getElem hk];rfl
  rw [e2];simp;omega
theorem x_lookF {t kt et:TypeId} {m x:Operand} {ty:TypeId} {b:Nat} {l:List Str} {k:Str} (hm:P.underlying t=some (.map kt et)) (hk:P.underlying kt=some .string) (hz:(P.info? et).bind (·.zero)=some (Value.int .i64 0))
    (hx:ev E m=.map (some b)) (hy:ev E x=S k) (hl:FieldsAt w b l):X P (.lookup t m x true) ty E w (.tuple #[.int .i64 (if idxS k l<l.length then (idxS k l:Nat) else 0:Int),.bool (decide (idxS k l<l.length))]) w:=by
  have h:=x_lookup (ty:=ty) hm hk hz hx hy hl;rw [fieldsF_idx,fieldsF_len] at h;by_cases hi:idxS k l<l.length
  · rw [if_pos hi,fieldsF_val hi] at h;rw [if_pos hi];simpa using h
  · rw [if_neg hi] at h;rw [if_neg hi];exact h
end Go.Gx
namespace Go.Gx
open Go.Proofs
variable {P:Program} {n:Nat} {Q:Post} {D:List Deferred} {E:Env} {w:World}
def unS:Value→Str
  | .string b=>b.data.toList
  | _=>[]
theorem unS_S (x:Str):unS (S x)=x:=by unfold unS S;simp
def decM (e:MapEntry):Str × Value:=(unS e.key,e.val)
theorem map_dec:∀ {es:List MapEntry} {l:List (Str × Value)},es.map kvM=l.map (fun x=>(S x.1,x.2))→es.map decM=l∧∀ e∈es,e.key=S (decM e).1
  | [],[],_=>⟨rfl,fun e h=>by cases h⟩
  | [],_ :: _,h=>by simp at h
  | _ :: _,[],h=>by simp at h
  | e :: es,y :: l,h=>by
    simp only [List.map_cons,List.cons.injEq,kvM,Prod.mk.injEq] at h;obtain ⟨⟨hk,hv⟩,ht⟩:=h;obtain ⟨h1,h2⟩:=map_dec ht;have hd:decM e=y:=by unfold decM;rw [hk,unS_S,hv]
    refine ⟨by rw [List.map_cons,hd,h1],fun z hz=>?_⟩;rcases List.mem_cons.1 hz with rfl | hz
    · rw [hd,hk]
    · exact h2 z hz
def IterAt (w:World) (r b:Nat) (l vis:List (Str × Value)):Prop:=
  ∃ es clock sb,∃ ds:List MapEntry,w.heap[b]? = some (.map es clock)∧MapIs es clock l∧w.heap[r]? = some (.mapIter (some b) clock sb clock)∧sb.toList=ds.map (·.born)∧(∀ d∈ds,d∈es.toList)∧(ds.map (·.born)).Nodup∧ds.map decM=vis
theorem IterAt.lt {r b:Nat} {l vis:List (Str × Value)} (h:IterAt w r b l vis):r<w.heap.size∧b<w.heap.size∧b≠r:=by
  obtain ⟨es,c,sb,ds,h1,-,h2,-⟩:=h;refine ⟨(Array.getElem?_eq_some_iff.1 h2).1,(Array.getElem?_eq_some_iff.1 h1).1,fun e=>?_⟩;rw [e,h2] at h1;cases h1
theorem IterAt.walk {r b:Nat} {l vis:List (Str × Value)} (h:IterAt w r b l vis):∃ o:Obj,w.heap[r]? = some o∧o.isWalk=true:=by
  obtain ⟨es,c,sb,ds,-,-,h2,-⟩:=h;exact ⟨_,h2,rfl⟩
theorem IterAt.carryR {R:Nat→Prop} {w':World} {r b:Nat} {l vis:List (Str × Value)} (h:IterAt w r b l vis) (g:Gr R w w') (h1:¬ R r) (h2:¬ R b):IterAt w' r b l vis:=by
  obtain ⟨hr,hb,-⟩:=h.lt;obtain ⟨es,c,sb,ds,a1,a2,a3,a4⟩:=h;exact ⟨es,c,sb,ds,(g.block b hb h2).trans a1,a2,(g.block r hr h1).trans a3,a4⟩
theorem IterAt.carry {w':World} {r b:Nat} {l vis:List (Str × Value)} (h:IterAt w r b l vis) (g:Bel w w'):IterAt w' r b l vis:=h.carryR g (fun f=>f) (fun f=>f)
theorem IterAt.keep {w':World} {r b:Nat} {l vis:List (Str × Value)} (h:IterAt w r b l vis) (g:KeepsWalks w w'):IterAt w' r b l vis:=by
  obtain ⟨hr,hb,-⟩:=h.lt;obtain ⟨es,c,sb,ds,a1,a2,a3,a4⟩:=h;exact ⟨es,c,sb,ds,g.same b _ a1 rfl,a2,g.same r _ a3 rfl,a4⟩
theorem len_subN {l m:List Nat} (hd:l.Nodup) (hs:∀ x,x∈l→x∈m):l.length≤m.length:=by
  induction l generalizing m with
  | nil=>simp
  | cons x l ih=>
    rw [List.nodup_cons] at hd;have hx:=hs x (by simp);have:=ih (m:=m.erase x) hd.2 fun y hy=>(List.mem_erase_of_ne (fun e=>hd.1 (by rw [← e];exact hy))).2 (hs y (by simp [hy]))
    rw [List.length_erase_of_mem hx] at this;have:=List.length_pos_of_mem hx;simp;omega
theorem born_inj {l:List MapEntry} (h:(l.map (·.born)).Nodup) {a b:MapEntry} (ha:a∈l) (hb:b∈l) (e:a.born=b.born):a=b:=by
  have h1:=find_born a l h ha;have h2:=find_born b l h hb;rw [e,h2] at h1;simpa using h1.symm
theorem L.rangeM {t kt et ty:TypeId} {ops:Array Oper} {r:List Oper} {d:Nat} {x:Operand} {p:String} {af:Array Edge} {b:Nat} {l:List (Str × Value)} (hm:P.underlying t=some (.map kt et)) (hx:ev E x=.map (some b)) (hd:Nat.blt d n=true) (hl:MapAt w b l)
    (kk:∀ w1,IterAt w1 w.heap.size b l []→w.grownBy w1 none→Bel w w1→w1.heap.size=w.heap.size+1→L P n ops Q r D (upd E d (.pointer (some ⟨w.heap.size,0,none⟩))) w1):
    L P n ops Q (⟨some d,.range t x,ty,p,af,none⟩ :: r) D E w:=by
  obtain ⟨es,c,hb,hes⟩:=hl;have hlt:=(Array.getElem?_eq_some_iff.1 hb).1;have hX:X P (.range t x) ty E w (.pointer (some ⟨w.heap.size,0,none⟩)) (w.alloc (.mapIter (some b) c #[] c)):=by
    unfold X;simp [execOp,hx,Instr.range,run_underlying hm,MapKept.run_getObj_map hb,Result.andThen]
  have hg:=World.grownBy_alloc w (.mapIter (some b) c #[] c) none;refine L.val hX hd (kk _ ⟨es,c,#[],[],?_,hes,World.alloc_heap_new w _,rfl,by simp,by simp,rfl⟩ hg ((gr_of hg).mono (fun _ _ h=>by cases h)) (by simp));exact (RowKit.Below.heap_alloc w _ b hlt).trans hb
theorem L.nextM {ty:TypeId} {ops:Array Oper} {r:List Oper} {d:Nat} {x:Operand} {p:String} {af:Array Edge} {rb b:Nat} {l vis:List (Str × Value)} (hx:ev E x=.pointer (some ⟨rb,0,none⟩)) (hd:Nat.blt d n=true) (hI:IterAt w rb b l vis)
    (k0:vis.Perm l→L P n ops Q r D (upd E d (.tuple #[.bool false])) w)
    (k1:∀ kv w1,kv∈l→vis.length<l.length→IterAt w1 rb b l (vis++[kv])→w.grownBy w1 (some rb)→Gr (· = rb) w w1→w1.heap.size=w.heap.size→L P n ops Q r D (upd E d (.tuple #[.bool true,S kv.1,kv.2])) w1):
    L P n ops Q (⟨some d,.next x false,ty,p,af,none⟩ :: r) D E w:=by
  obtain ⟨-,-,hbr⟩:=hI.lt;obtain ⟨es,c,sb,ds,hb,⟨hes,hn,hc⟩,hr,hsb,hsub,hdn,hvis⟩:=hI;obtain ⟨hdec,hkey⟩:=map_dec hes;have hold:∀ x∈es.toList,x.born<c:=fun x hx=>hc _ (List.mem_map_of_mem hx)
  rcases run_next_at (P:=P) w ty rb b c c sb es c hr hb hold (Nat.le_refl _) with ⟨h0,hrun⟩ | ⟨e,he,w1,hw1,hrun⟩
  · refine L.val (v:=.tuple #[.bool false]) (w':=w) (by unfold X;simp [execOp,hx,hrun,Result.andThen]) hd (k0 ?_);have hall:∀ e∈es.toList,e.born∈ds.map (·.born):=fun e he=>by
      refine Decidable.byContradiction fun hno=>?_
      have:e∈(leftOf es sb).toList:=by
        unfold leftOf;simp only [Array.toList_filter,List.mem_filter];refine ⟨he,?_⟩;rw [← hsb] at hno;simpa using hno
      have hp:=List.length_pos_of_mem this;simp at hp;omega
    have hds:ds.Nodup:=List.Pairwise.of_map (·.born) (fun _ _ h e=>h (by rw [e])) hdn;have hesn:es.toList.Nodup:=List.Pairwise.of_map (·.born) (fun _ _ h e=>h (by rw [e])) hn;have hp:ds.Perm es.toList:=(List.perm_ext_iff_of_nodup hds hesn).2 fun e=>⟨hsub e,fun he=>by
      obtain ⟨d',hd',e'⟩:=List.mem_map.1 (hall e he);rw [← born_inj hn (hsub d' hd') he e'];exact hd'⟩
    rw [← hvis,← hdec];exact hp.map _
  · have hel:e∈es.toList∧¬ e.born∈ds.map (·.born):=by
      unfold leftOf at he;simp only [Array.toList_filter,List.mem_filter] at he;refine ⟨he.1,?_⟩;rw [← hsb];simpa using he.2
    have hw1s:w1.heap=w.heap:=by rcases hw1 with rfl | rfl <;> rfl
    have hsize:(Go.ChangeMaps.setBlock w1 rb (.mapIter (some b) c (sb.push e.born) c)).heap.size=w.heap.size:=by simp [Go.ChangeMaps.setBlock,hw1s]
    have hgr:w.grownBy (Go.ChangeMaps.setBlock w1 rb (.mapIter (some b) c (sb.push e.born) c)) (some rb):=by
      refine ⟨?_,?_,?_,by rw [hsize];exact Nat.le_refl _,fun k hk hne=>?_⟩
      · rcases hw1 with rfl | rfl <;> rfl
      · rcases hw1 with rfl | rfl <;> rfl
      · rcases hw1 with rfl | rfl <;> rfl
      · have hne:rb≠k:=fun e=>hne (by rw [e])
        simp [Go.ChangeMaps.setBlock,hw1s,hne]
    have hkv:decM e∈l:=by rw [← hdec];exact List.mem_map_of_mem hel.1
    have hval:(Value.tuple #[.bool true,e.key,e.val])=.tuple #[.bool true,S (decM e).1,(decM e).2]:=by rw [hkey e hel.1];rfl
    have hlen:vis.length<l.length:=by
      have:=len_subN (l:=(ds++[e]).map (·.born)) (m:=es.toList.map (·.born)) (by
        rw [List.map_append];refine List.nodup_append.2 ⟨hdn,by simp,fun x hx y hy e2=>?_⟩;simp at hy;subst e2;exact hel.2 (hy ▸ hx)) (fun x hx=>by
        rw [List.map_append] at hx;rcases List.mem_append.1 hx with hx | hx
        · obtain ⟨d',hd',rfl⟩:=List.mem_map.1 hx;exact List.mem_map_of_mem (hsub d' hd')
        · simp at hx;subst hx;exact List.mem_map_of_mem hel.1)
      rw [← hvis,← hdec];simp at this ⊢;omega
    refine L.val (v:=.tuple #[.bool true,S (decM e).1,(decM e).2]) (w':=Go.ChangeMaps.setBlock w1 rb (.mapIter (some b) c (sb.push e.born) c)) (by unfold X;simp [execOp,hx,hrun,Result.andThen,hval]) hd
      (k1 (decM e) _ hkv hlen ⟨es,c,sb.push e.born,ds++[e],?_,⟨hes,hn,hc⟩,?_,?_,?_,?_,?_⟩ hgr ((gr_of hgr).mono fun k _ h=>by cases h;rfl) hsize)
    · have hne:rb≠b:=fun e=>hbr e.symm
      simp only [Go.ChangeMaps.setBlock,hw1s];rw [Array.getElem?_setIfInBounds_ne hne];exact hb
    · simp only [Go.ChangeMaps.setBlock,hw1s];rw [Array.getElem?_setIfInBounds_self_of_lt (Array.getElem?_eq_some_iff.1 hr).1]
    · rw [Array.toList_push,hsb,List.map_append];rfl
    · intro d' hd';rcases List.mem_append.1 hd' with h | h
      · exact hsub d' h
      · rw [List.mem_singleton.1 h];exact hel.1
    · rw [List.map_append];refine List.nodup_append.2 ⟨hdn,by simp,fun x hx y hy e2=>?_⟩;simp at hy;subst e2;exact hel.2 (hy ▸ hx)
    · rw [List.map_append,hvis];rfl
theorem x_entry {ty:TypeId} {x:Operand} {rb b:Nat} {l vis:List (Str × Value)} {kv:Str × Value} (hx:ev E x=.pointer (some ⟨rb,0,none⟩)) (hI:IterAt w rb b l (vis++[kv])):X P (.entry x) ty E w (.tuple #[S kv.1,kv.2]) w:=by
  obtain ⟨es,c,sb,ds,hb,⟨hes,hn,hc⟩,hr,hsb,hsub,hdn,hvis⟩:=hI;obtain ⟨hdec,hkey⟩:=map_dec hes;obtain ⟨ds',e,rfl⟩:∃ ds' e,ds=ds'++[e]:=by
    rcases List.eq_nil_or_concat ds with h | ⟨l,a,h⟩
    · rw [h] at hvis;simp at hvis
    · exact ⟨l,a,by rw [h];simp⟩
  have hkv:decM e=kv:=by
    rw [List.map_append] at hvis;have:=congrArg List.getLast? hvis;simpa using this
  have he:=hsub e (by simp);obtain ⟨sb',rfl⟩:∃ sb':Array Nat,sb=sb'.push e.born:=by
    refine ⟨sb.pop,?_⟩;apply Array.ext';rw [Array.toList_push,Array.toList_pop,hsb];simp
  have hrun:=run_entry_at (P:=P) w rb b c sb' es c e hr hb he hn;rw [hkey e he,hkv] at hrun;have hv:e.val=kv.2:=by rw [← hkv];rfl
  rw [hv] at hrun;unfold X;simp [execOp,hx,hrun,Result.andThen]
theorem x_extn {f:FuncId} {fn:Func} {e:Array Value→Sem Value} {xs:Array Operand} {ts:Array TypeId} {t:TypeId} {vs:List Value} {v:Value} {w':World} (hf:P.funcs[f]? = some fn) (hname:(fn.name == "runtime.NumGoroutine")=false) (hb:fn.body.isNone=true) (hn:Extern.findNext fn=none) (he:Extern.find fn=some e)
    (hv:xs.toList.map (ev E)=vs) (hr:(e vs.toArray).run P w=.ok v w'):X P (.call ⟨.value (.func f),xs,ts⟩) t E w v w':=by
  unfold X;have hv':xs.map (ev E)=vs.toArray:=by apply Array.ext';simpa using hv
  simp only [execOp,resolve,ev,Deferred.ofValue,hv',Sem.run_bind];have:=run_callFunc_extern (P:=P) hf hname hb hn he (#[]++vs.toArray++#[]) w;simp only [Array.empty_append,Array.append_empty,hr,Result.andThen] at this;simpa [invoke] using this
theorem x_eqlm {x y:Operand} {t u z k e:TypeId} {p:Option Nat} (hu:P.underlying u=some (.map k e)) (hx:ev E x=.map p) (hy:ev E y=.map none):X P (.binOp .eql u x y z) t E w (.bool p.isNone) w:=by
  unfold X;have h0:∀ d:Nat,(Op.equalIn (d+1) u (.map p) (.map none)).run P w=.ok p.isNone w:=fun d=>by cases p <;> simp [Op.equalIn,run_underlying hu]
  have h1:=h0 9999;have h2:(binOp .eql u (.map p) (.map none)).run P w=.ok (.bool p.isNone) w:=by
    simp only [binOp];simp [show Op.equal u (.map p) (.map none)=Op.equalIn (9999+1) u (.map p) (.map none) from rfl,h1]
  simp [execOp,hx,hy,eqGuard,h2]
theorem x_tasm {x:Operand} {t u s k e:TypeId} {v:Value} (hu:P.underlying s=some (.map k e)) (hx:ev E x=.iface s v):X P (.typeAssert x u s false) t E w v w:=by
  unfold X;simp [execOp,hx,Instr.typeAssert,run_underlying hu,Result.andThen]
theorem run_clone {b:Nat} {es:Array MapEntry} {c:Nat} (t:TypeId) (hb:w.heap[b]? = some (.map es c)):(Extern.MapsClone.clone #[.iface t (.map (some b))]).run P w=.ok (.iface t (.map (some w.heap.size))) (w.alloc (.map es c)):=by
  have e:Extern.MapsClone.clone #[.iface t (.map (some b))]=(getObj b >>= fun o=>match o with
      | .map entries clock=>(newObj (.map entries clock) >>= fun n=>pure (.iface t (.map (some n))))
      | _=>stuck "maps.clone: a map expected"):=rfl
  rw [e];simp [MapKept.run_getObj_map hb,Result.andThen]
end Go.Gx
namespace Go.Gx
open Go.Proofs Go.Sort
theorem kmaps_oc51:oneCellT Tryz.prog 51=true:=by kernel_rfl
theorem mapclone_ok (b:Nat) (l:List (Str × Value)) (w:World) (h:MapAt w b l):
    Ret Tryz.prog 47 #[.map (some b)] w fun v w'=>(v=.map (some w.heap.size)∧MapAt w' w.heap.size l)∧Bel w w':=by
  obtain ⟨es,c,hb,hes⟩:=id h;refine ret_of_W Tryz.func47 rfl (Nat.le_of_ble_eq_true rfl) (res1 rfl) ?_;refine W.seq (W.region (L.val (x_as (v:=.map _) rfl) rfl ?_));refine L.nil (thn_n (W.seq (W.seq (W.region (L.val (x_mv (v:=.map _) rfl) rfl ?_)))));refine L.val (x_eqlm Tryz.underlying51 rfl rfl) rfl ?_;refine L.nil (thn_n (W.cond (b:=_) rfl (fun g4=>?_) (fun g4=>?_)))
  ·have h4:=g4;cases g4
  ·have h4:=g4;refine W.skip (thn_n (W.seq (W.region (L.val (x_mv (v:=.map _) rfl) rfl ?_))));refine L.val (x_iface Tryz.underlying51 rfl rfl) rfl ?_;refine L.val (x_extn (e:=Extern.MapsClone.clone) Tryz.func63 kr_ kr_ kr_ kr_ rfl (run_clone _ hb)) rfl ?_;refine L.val (x_tasm Tryz.underlying51 rfl) rfl ?_;refine L.val (x_as (v:=.map _) rfl) rfl ?_;refine L.nil (thn_n (W.ret (fin_mk (.inr rfl) ?_)));exact ⟨⟨rfl,es,c,World.alloc_heap_new w _,hes⟩,bel_alloc _ _⟩
def putAll (m vis:List (Str × Value)):List (Str × Value):=vis.foldl (fun m kv=>putM m kv.1 kv.2) m
theorem putAll_snoc {m vis:List (Str × Value)} {kv:Str × Value}:putAll m (vis++[kv])=putM (putAll m vis) kv.1 kv.2:=by unfold putAll;rw [List.foldl_append];rfl
theorem mapcopy_ok (bd bs:Nat) (ld ls:List (Str × Value)) (w:World) (mp0:MapAt w bd ld) (hs:MapAt w bs ls) (hne:bd≠bs):
    Ret Tryz.prog 48 #[.map (some bd),.map (some bs)] w fun v w'=>(v=.tuple #[]∧∃ vis,vis.Perm ls∧MapAt w' bd (putAll ld vis))∧Gr (· = bd) w w':=by
  have hbl:=mp0.lt;refine ret_of_W Tryz.func48 rfl (Nat.le_of_ble_eq_true rfl) (res0 rfl) ?_;have hB:=Gr.refl (· = bd) w;refine W.seq (W.region (L.val (x_mv (v:=.map _) rfl) rfl ?_));refine L.rangeM Tryz.underlying51 rfl rfl hs (fun w7 it7 gn7 hw hz7=>?_);have hB:=hB.carry hw;have mp0:=mp0.carry hw;have z7:w7.heap.size=w.heap.size+1:=hz7;refine L.nil (thn_n (W.block (W.loop (fun m' E w'=>∃ (vis:List (Str × Value)) (k:Nat),m'=ls.length - k∧E 0=.map (some bd)∧E 7=.pointer (some ⟨w.heap.size,0,none⟩)∧(Gr (· = bd) w w')∧(MapAt w' bd (putAll ld vis))∧(IterAt w' w.heap.size bs ls vis)∧(k=vis.length)) (ls.length) ?_ ?_)))
  ·exact ⟨[],0,by omega,vi_,vi_,ao_,ao_,ao_,(by rfl)⟩
  ·rintro _ E wL8 ⟨vis,k,em,e0,e7,hB,mp0,it7,hk⟩;rw [upd_self e0,upd_self e7];refine W.seq (W.region (L.nextM rfl rfl it7 (fun hp8=>?_) (fun kv8 w8 hkv8 hlt8 it7 gn8 hw hz8=>?_)))
   ·refine L.val (x_ext (v:=.bool _) rfl rfl) rfl ?_;refine L.nil (thn_n (W.seq (W.cond (b:=false) rfl (fun h=>nomatch h) (fun _=>?_))));refine W.exit (thn_x (thn_x (blk_hit ?_)));refine fin_mk (.inl rfl) ?_;exact ⟨⟨rfl,vis,hp8,mp0⟩,hB⟩
   ·have hB:=hB.set hw om_;have mp0:=mp0.carryR hw om_;refine L.val (x_ext (v:=.bool _) rfl rfl) rfl ?_;refine L.nil (thn_n (W.seq (W.cond (b:=true) rfl (fun _=>?_) (fun h=>nomatch h))));refine W.skip (thn_n (W.block (W.seq (W.region (L.val (x_entry rfl it7) rfl ?_)))));refine L.val (x_ext (v:=S _) rfl rfl) rfl ?_;refine L.val (x_ext (v:=kv8.2) rfl rfl) rfl ?_;refine L.val (x_as (v:=S _) rfl) rfl ?_;refine L.val (x_as (v:=kv8.2) rfl) rfl ?_;refine L.nil (thn_n (W.region (L.val (x_mv (v:=.map _) rfl) rfl ?_)));refine L.val (x_mv (v:=S _) rfl) rfl ?_;refine L.val (x_mv (v:=kv8.2) rfl) rfl ?_;refine L.mapset (v:=kv8.2) Tryz.underlying51 Tryz.underlying9 rfl rfl rfl mp0 (fun wl13 mp0 hw hzl13=>?_);have hB:=hB.trans hw;have it7:=it7.carryR hw om_ om_;have mp0:MapAt wl13 bd (putAll ld (vis++[kv8])):=by rw [putAll_snoc];exact mp0
    refine L.nil (blk_n (thn_n ⟨rfl,?_⟩));refine ⟨_,?_,vis++[kv8],k+1,rfl,vi_,vi_,ao_,ao_,ao_,(by simp [hk])⟩;omega
theorem keys_it (l Bs n₀ b:Nat) (ks:List (Str × Value)) (J Jx:List Str→World→Prop) (w:World) (hAb:AbidesFrom w.heap.size J)
    (hY:∀ pre x W,J pre W→pre.length<ks.length→YieldAt Fence.wide 0 Tryz.prog l #[S x] W fun e W'=>
      (e=.returned (.bool true)∧J (pre++[x]) W'∧KpB n₀ W W')∨(e=.returned (.bool false)∧Jx (pre++[x]) W'))
    (hBs:w.cell? ⟨Bs,0,none⟩=some (.map (some b))) (hs:MapAt w b ks) (h0:J [] w):
    Ret Tryz.prog 66 #[.func (.yield l) #[] #[],.pointer (some ⟨Bs,0,none⟩)] w fun _ W'=>(∃ xs:List Str,xs.Perm (ks.map (·.1))∧J xs W')∨(∃ pre:List Str,True∧Jx pre W'):=by
  refine ret_of_W Tryz.func66 rfl (Nat.le_of_ble_eq_true rfl) (res0 rfl) ?_;refine W.seq (W.region (L.val (x_ld (v:=.map _) kmaps_oc51 rfl hBs) rfl ?_));refine L.rangeM Tryz.underlying51 rfl rfl hs (fun w5 it5 gn5 hw hz5=>?_);have hJ:=hAb _ _ _ _ h0 gn5 (fun r e=>by cases e);refine L.nil (thn_n (W.block (W.loop (fun m' E w'=>∃ (vis:List (Str × Value)) (k:Nat),m'=ks.length - k∧E 0=.func (.yield l) #[] #[]∧E 5=.pointer (some ⟨w.heap.size,0,none⟩)∧(J (vis.map (·.1)) w')∧(IterAt w' w.heap.size b ks vis)∧(k=vis.length)) (ks.length) ?_ ?_)))
  ·exact ⟨[],0,by omega,vi_,vi_,(by exact hJ),ao_,(by rfl)⟩
  ·rintro _ E wL6 ⟨vis,k,em,e0,e5,hJ,it5,hk⟩;rw [upd_self e0,upd_self e5];refine W.seq (W.region (L.nextM rfl rfl it5 (fun hp6=>?_) (fun kv6 w6 hkv6 hlt6 it5 gn6 hw hz6=>?_)))
   ·refine L.val (x_ext (v:=.bool _) rfl rfl) rfl ?_;refine L.nil (thn_n (W.seq (W.cond (b:=false) rfl (fun h=>nomatch h) (fun _=>?_))));refine W.exit (thn_x (thn_x (blk_hit ?_)));refine fin_mk (.inl rfl) ?_;exact .inl ⟨_,hp6.map _,hJ⟩
   ·have hwk:=IterAt.walk (r:=w.heap.size) ‹IterAt wL6 w.heap.size b ks vis›;have hJ:=hAb _ _ _ _ hJ gn6 (fun r e=>by cases e;exact ⟨Nat.le_refl _,hwk⟩);refine L.val (x_ext (v:=.bool _) rfl rfl) rfl ?_;refine L.nil (thn_n (W.seq (W.cond (b:=true) rfl (fun _=>?_) (fun h=>nomatch h))));refine W.skip (thn_n (W.block (W.seq (W.region (L.val (x_entry rfl it5) rfl ?_)))));refine L.val (x_ext (v:=S _) rfl rfl) rfl ?_;refine L.val (x_as (v:=S _) rfl) rfl ?_;refine L.nil (thn_n (W.seq (W.wide (m:=1) (WI.region ?_))));refine LI.val (fun _=>trivial) (fun _ h=>by cases h) (x_mv (v:=.func _ _ _) rfl) rfl ?_;refine LI.val (fun _=>trivial) (fun _ h=>by cases h) (x_mv (v:=S _) rfl) rfl ?_;refine LI.yield (R:=fun e W'=>∃ z,e=.returned (.bool z)∧(z=true→J (vis.map (·.1)++[kv6.1]) W'∧KpB n₀ w6 W')∧(z=false→Jx (vis.map (·.1)++[kv6.1]) W')) (fun _=>trivial) rfl rfl rfl rfl ((hY (vis.map (·.1)) kv6.1 w6 hJ (by rw [List.length_map];exact hlt6)).mono ?_) (fun e w' ⟨z,h,_⟩=>⟨_,h⟩) ?_
    · rintro e W' (⟨rfl,a1,a2⟩ | ⟨rfl,a1⟩)
      · exact ⟨true,rfl,fun _=>⟨a1,a2⟩,fun h=>by cases h⟩
      · exact ⟨false,rfl,fun h=>(by cases h),fun _=>a1⟩
    rintro u w12 ⟨z,hz,r1,r2⟩;cases hz;refine LI.val (fun _=>trivial) (fun _ h=>by cases h) (x_not rfl) rfl ?_;refine LI.nil ?_;refine thn_n (W.cond (b:=_) rfl (fun g13=>?_) (fun g13=>?_))
    ·have h13:=(not_t g13);refine W.ret (blk_r (thn_r (blk_r (fin_mk (.inr rfl) ?_))));exact .inr ⟨_,trivial,r2 (by simpa using g13)⟩
    ·have h13:=(not_f g13);have h13:=g13;have it5:=it5.keep (r1 (by simpa using h13)).2.2;refine W.skip (blk_n (thn_n ⟨rfl,?_⟩));refine ⟨_,?_,vis++[kv6],k+1,rfl,vi_,vi_,(by rw [List.map_append];exact (r1 (by simpa using h13)).1),ao_,(by simp [hk])⟩;omega
theorem keys_seq (Bs n₀ b:Nat) (ks:List (Str × Value)) (w:World) (hBs:Bs<w.heap.size) (hc:w.cell? ⟨Bs,0,none⟩=some (.map (some b))) (hs:MapAt w b ks):
    SeqStopsK Fence.wide 1 Tryz.prog 66 #[.pointer (some ⟨Bs,0,none⟩)] (fun x:Str=>#[S x]) (KpB n₀) (fun xs=>xs.Perm (ks.map (·.1))) (fun _=>True) ks.length w:=by
  intro l J Jx w1 hW hA _ hY h0;have hlt:=hs.lt;have hs1:MapAt w1 b ks:=by
    obtain ⟨es,c,h,hm⟩:=hs;exact ⟨es,c,(hW.block b hlt).trans h,hm⟩
  have hc1:=(hW.cell (p:=⟨Bs,0,none⟩) hBs).trans hc;rw [show (#[Value.func (.yield l) #[] #[]]++#[Value.pointer (some ⟨Bs,0,none⟩)]:Array Value)=#[.func (.yield l) #[] #[],.pointer (some ⟨Bs,0,none⟩)] from rfl];refine callsIn_wide.2 (Calls.mono (keys_it l Bs n₀ b ks J Jx w1 hA hY hc1 hs1 h0) ?_);rintro e w2 ⟨u,rfl,h⟩;exact ⟨⟨u,rfl⟩,h⟩
theorem keys_ok (b:Nat) (w:World):Ret Tryz.prog 50 #[.map (some b)] w fun r w'=>r=.func (.func 66) #[] #[.pointer (some ⟨w.heap.size,0,none⟩)]∧Box w' w.heap.size 51 [.map (some b)]∧Bel w w':=by
  refine ret_of_W Tryz.func50 rfl (Nat.le_of_ble_eq_true rfl) (res1 rfl) ?_;have hB:=Gr.refl (fun _=>False) w;refine W.seq (W.region (L.box (cs:=[.map (some b)]) rfl rfl (fun w1 bx1 hw hz1=>?_)));have hB:=hB.carry hw;refine L.val (x_as (v:=_) rfl) rfl ?_;refine L.nil (thn_n (W.seq (W.region (L.val (x_mkfn rfl rfl) rfl ?_))));refine L.val (x_as (v:=_) rfl) rfl ?_;refine L.nil (thn_n (W.ret (fin_mk (.inr rfl) ?_)));exact ⟨rfl,bx1,hB⟩
end Go.Gx
namespace Go.Gx
variable {P:Program} {ops:Array Oper} {Q:Exit→Act→World→Prop} {C:World→Prop}
def YF (P:Program) (ops:Array Oper) (C:World→Prop) (o:Oper) (v:Value) (a:Act):Prop:=
  (Region.wanted o (yielded ops a.tmps)=true∧∀ w,C w→(execOp a.eval o).run P w=.ok (.value v) w)∨(Region.wanted o (yielded ops a.tmps)=false∧v=undef)
theorem YF.same {o:Oper} {v:Value} {a a':Act} (hy:YF P ops C o v a) (he:execOp a'.eval o=execOp a.eval o) (hw:Region.wanted o (yielded ops a'.tmps)=Region.wanted o (yielded ops a.tmps)):YF P ops C o v a':=by
  unfold YF at *;rw [he,hw];exact hy
theorem YF.take {i:Nat} {o:Oper} {v:Value} {a:Act} (hi:ops[i]? = some o) (hy:YF P ops C o v a) {K:Act→World→Prop} {w:World} (hC:C w) (h:K (a.put o.dst v) w):wpOp P ops Q i K a w:=by
  unfold wpOp;rcases hy with ⟨h1,h2⟩ | ⟨h1,rfl⟩
  · simp only [hi,h1,if_true,Oper.wp,h2 w hC,Oper.upon];exact .inl h
  · simp only [hi];rw [if_neg (by rw [h1];simp)];exact h
theorem wpOp_lateF {j:Nat} {oi oj:Oper} {v:Value} (hj:ops[j]? = some oj) (hap:oi.apart ops oj=true)
    (hsi:∀ cs b,oi.op≠.select cs b) (hsj:∀ cs b,oj.op≠.select cs b)
    (hQ:∀ c a w,Q (.panic c) (a.put oi.dst v) w→Q (.panic c) a w) {K:Act→World→Prop} {a:Act} {w:World}
    (hy:YF P ops C oi v a) (h:wpOp P ops Q j K (a.put oi.dst v) w):
    wpOp P ops Q j (fun a' w'=>YF P ops C oi v a'∧K (a'.put oi.dst v) w') a w:=by
  obtain ⟨h1,h2,h3⟩:=Oper.apart_spec hap;have keep:∀ u,YF P ops C oi v (a.put oj.dst u):=fun u=>hy.same (execOp_put oi hsi a oj.dst u h3) (wanted_put oi a oj.dst u h3)
  have hw1:=wanted_put oj a oi.dst v h1;have he1:=execOp_put oj hsj a oi.dst v h1;unfold wpOp at h ⊢;simp only [hj] at h ⊢;rw [hw1] at h;by_cases hw:Region.wanted oj (yielded ops a.tmps)=true
  · rw [if_pos hw] at h ⊢;rcases h with h | ⟨ha,hl⟩
    · left;unfold Oper.wp at h ⊢;rw [he1] at h;generalize (execOp a.eval oj).run P w=r at h ⊢;cases r with
      | halt x w'=>
        cases x with
        | panic u=>exact hQ _ _ _ h
        | _=>exact h
      | ok x w'=>
        cases x with
        | value u=>exact ⟨keep u,by rw [← Act.put_comm a v u h2];exact h⟩
        | skip=>exact ⟨keep _,by rw [← Act.put_comm a v undef h2];exact h⟩
        | defer d=>
          refine ⟨(hy.same (a':={ a with defers:=d :: a.defers }) rfl rfl).same (execOp_put oi hsi _ oj.dst _ h3) (wanted_put oi _ oj.dst _ h3),?_⟩;rw [← Act.put_comm _ v undef h2,← Act.put_defers];exact h
        | enter f args=>
          refine Calls.mono h fun e w'' he=>?_
          cases e with
          | returned u=>exact ⟨keep u,by rw [← Act.put_comm a v u h2];exact he⟩
          | panicked c=>exact hQ _ _ _ he
          | outgrown=>exact he
        | row row args=>exact Rows.mono h fun u w'' he=>⟨keep u,by rw [← Act.put_comm a v u h2];exact he⟩
        | _=>exact h
    · exact .inr ⟨by unfold Oper.asks at *;rw [he1] at ha;exact ha,hl⟩
  · rw [if_neg hw] at h ⊢;exact ⟨keep _,by rw [← Act.put_comm a v undef h2];exact h⟩
theorem getD_out {listed:Array Bool} {st:Nat} (h:listed.size≤st):listed.getD st false=false:=by
  simp [Array.getElem?_eq_none h]
theorem wpAnyC.takeF {i st:Nat} {oi:Oper} {v:Value} (hi:ops[i]? = some oi) (hsel:∀ (j:Nat) (o:Oper) cs b,ops[j]? = some o→o.op≠.select cs b)
    (hQ:∀ c a w,Q (.panic c) (a.put oi.dst v) w→Q (.panic c) a w):
    ∀ (fuel:Nat) (listed:Array Bool) (a:Act) (w:World),listed.size≤st→
      (∀ j oj,ops[j]? = some oj→j≠i→listed.getD j true=false→(∀ e∈oj.after,Region.binds .any e=true→e.on≠i)→oi.apart ops oj=true)→
      i∈Region.ready .any ops listed→YF P ops C oi v a→
      wpAnyC P ops C st Q fuel (listed.setIfInBounds i true) (a.put oi.dst v) w→wpAnyC P ops C st Q (fuel+1) listed a w:=by
  intro fuel;induction fuel with
  | zero=>
    intro listed a w hsz _ hr hy H;have hC:C w:=H.1 (getD_out (by simpa using hsz));refine ⟨fun _=>hC,fun h=>(by rw [h] at hr;cases hr),fun j hj=>?_⟩;by_cases hji:j=i
    · subst hji;exact hy.take hi hC H
    · have:=ready_mono hj hji;rw [H.2.1] at this;cases this
  | succ fuel ih=>
    intro listed a w hsz hfree hr hy H;have hun:=(mem_ready.1 hr).1;have hC:C w:=H.here (getD_out (by simpa using hsz));refine ⟨fun _=>hC,fun h=>(by rw [h] at hr;cases hr),fun j hj=>?_⟩;by_cases hji:j=i
    · subst hji;exact hy.take hi hC H
    · have h1:=H.2.2 j (ready_mono hj hji);obtain ⟨hjun,oj,hoj,hall⟩:=mem_ready.1 hj;have hnot:∀ e∈oj.after,Region.binds .any e=true→e.on≠i:=fun e he hb heq=>by
        have h1:=hall e he hb;rw [heq,unlisted hun] at h1;cases h1
      have h2:=wpOp_lateF hoj (hfree j oj hoj hji hjun hnot) (fun cs b=>hsel i oi cs b hi) (fun cs b=>hsel j oj cs b hoj) hQ hy h1;refine wpOp_mono (fun a' w' h3=>ih (listed.setIfInBounds j true) a' w' (by simpa using hsz) (fun k ok hk hki hu hno=>?_) (ready_mono hr (Ne.symm hji)) h3.1 ?_) h2
      · refine hfree k ok hk hki ?_ hno;by_cases hjk:j=k
        · subst hjk;exact hjun
        · rw [getD_set_ne true hjk] at hu;exact hu
      · rw [Array.setIfInBounds_comm _ _ hji];exact h3.2
section
variable {n st:Nat} {K:List Deferred→Env→World→Prop} {D:List Deferred} {E:Env} {w:World}
theorem LAC.takeY {fuel:Nat} {listed:Array Bool} {i d:Nat} {o:Oper} {v:Value}
    (ho:ops[i]? = some o) (hod:o.dst=some d) (hs:Region.noSelect ops=true) (hf:Region.free .any ops listed i=true) (hr:(Region.ready .any ops listed).contains i=true) (hz:Nat.ble listed.size st=true)
    (hx:∀ a,Fr D n a E→YF P ops C o v a) (hd:Nat.blt d n=true) (k:LAC P n ops C st K fuel (listed.setIfInBounds i true) D (upd E d v) w):LAC P n ops C st K (fuel+1) listed D E w:=by
  intro a ha;refine wpAnyC.takeF ho (Region.noSelect_spec hs) ?_ fuel listed a w (Nat.le_of_ble_eq_true hz) (Region.free_spec ho hf) (by simpa using hr) (hx a ha) ?_
  · rintro c a w ⟨_,E,_,h,_⟩;cases h
  · rw [hod];exact k _ (ha.put v hd)
theorem LAC.takeN {fuel:Nat} {listed:Array Bool} {i d:Nat} {op:Op} {t:TypeId} {p:String} {af:Array Edge} {v:Value}
    (ho:ops[i]? = some ⟨some d,op,t,p,af,none⟩) (hs:Region.noSelect ops=true) (hf:Region.free .any ops listed i=true) (hr:(Region.ready .any ops listed).contains i=true) (hz:Nat.ble listed.size st=true)
    (hx:∀ w,C w→X P op t E w v w) (hd:Nat.blt d n=true) (k:LAC P n ops C st K fuel (listed.setIfInBounds i true) D (upd E d v) w):LAC P n ops C st K (fuel+1) listed D E w:=
  LAC.takeY ho rfl hs hf hr hz (fun a ha=>.inl ⟨by simp [Region.wanted],fun w hw=>by
    have:=hx w hw;unfold X at this;rw [execOp_bare,ha.eval];exact this⟩) hd k
theorem LAC.takeG {fuel:Nat} {listed:Array Bool} {i d j dj:Nat} {op:Op} {t:TypeId} {p:String} {af:Array Edge} {v:Value} {want b:Bool}
    (ho:ops[i]? = some ⟨some d,op,t,p,af,some (j,want)⟩) (hs:Region.noSelect ops=true) (hf:Region.free .any ops listed i=true) (hr:(Region.ready .any ops listed).contains i=true) (hz:Nat.ble listed.size st=true)
    (hj:(ops[j]?).bind (·.dst)=some dj) (hE:E dj=.bool b) (hb:b=want)
    (hx:∀ w,C w→X P op t E w v w) (hd:Nat.blt d n=true) (k:LAC P n ops C st K fuel (listed.setIfInBounds i true) D (upd E d v) w):LAC P n ops C st K (fuel+1) listed D E w:=
  LAC.takeY ho rfl hs hf hr hz (fun a ha=>.inl ⟨wanted_yes rfl hj ha (hb ▸ hE),fun w hw=>by
    have:=hx w hw;unfold X at this;rw [execOp_bare,ha.eval];exact this⟩) hd k
theorem LAC.takeU {fuel:Nat} {listed:Array Bool} {i d j dj:Nat} {op:Op} {t:TypeId} {p:String} {af:Array Edge} {want b:Bool}
    (ho:ops[i]? = some ⟨some d,op,t,p,af,some (j,want)⟩) (hs:Region.noSelect ops=true) (hf:Region.free .any ops listed i=true) (hr:(Region.ready .any ops listed).contains i=true) (hz:Nat.ble listed.size st=true)
    (hj:(ops[j]?).bind (·.dst)=some dj) (hE:E dj=.bool b) (hb:b=!want)
    (hd:Nat.blt d n=true) (k:LAC P n ops C st K fuel (listed.setIfInBounds i true) D (upd E d undef) w):LAC P n ops C st K (fuel+1) listed D E w:=
  LAC.takeY ho rfl hs hf hr hz (fun _ ha=>.inr ⟨wanted_no rfl hj ha hE hb,rfl⟩) hd k
theorem LAC.split {fuel:Nat} {listed:Array Bool} {dj:Nat} {b:Bool} (_hE:E dj=.bool b) (ht:b=true→LAC P n ops C st K fuel listed D E w) (hf:b=false→LAC P n ops C st K fuel listed D E w):LAC P n ops C st K fuel listed D E w:=by
  cases b
  · exact hf rfl
  · exact ht rfl
theorem LAC.doneF {listed:Array Bool} (hr:Region.ready .any ops listed=[]) (hC:C w) (h:K D E w):LAC P n ops C st K 0 listed D E w:=
  fun _ ha=>⟨fun _=>hC,hr,lift_mk (by simp) ha ⟨rfl,h⟩⟩
theorem W.drawF {id:Nat} {l:List Oper} {Q:Post} (st:Nat) (hm:P.follows .mixedOrders=true) (h:∀ w1,Bel w w1→LAC P n l.toArray (Bel w) st (Q .normal) l.length (Array.replicate l.length false) D E w1):W P n (.region id l.toArray true) Q D E w:=
  W.drawT (Bel w) st hm (h _ (bel_drew _))
end
end Go.Gx
