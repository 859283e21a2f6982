/- Slices that a call makes itself: literals, append. Conditions: none. -/
import Derived.Great.BuildSlice
import Derived.Defers
import Derived.Recover
import Derived.Laws.Bits64
import Derived.Test.YtfbcfdhhgdmgkaaGreatDoorDbRep
namespace Go.Gx
open Go.RowKit
def elT (P:Program) (e:TypeId) (sz:Nat):Bool:=
  match P.info? e with
  | some i=>match i.zero with
    | some z=>i.size == sz && z.cells.size == sz && decide (0<sz) && decide (i.bytes≤200)
    | none=>false
  | none=>false
theorem elT_spec {P:Program} {e:TypeId} {sz:Nat} (h:elT P e sz=true):∃ i z,P.info? e=some i∧i.zero=some z∧i.size=sz∧z.cells.size=sz∧0<sz∧i.bytes≤200:=by
  unfold elT at h;cases hi:P.info? e with
  | none=>simp [hi] at h
  | some i=>
    cases hz:i.zero with
    | none=>simp [hi,hz] at h
    | some z=>
      simp only [hi,hz,Bool.and_eq_true,beq_iff_eq,decide_eq_true_eq] at h;exact ⟨i,z,rfl,hz,h.1.1.1,h.1.1.2,h.1.2,h.2⟩
section
variable {P:Program} {n:Nat} {Q:Post} {D:List Deferred} {E:Env} {w:World}
def partsOk (sz:Nat):Nat→List (Nat × Value)→Bool
  | _,[]=>true
  | k,(i,v) :: r=>i == k && v.cells.size == sz && partsOk sz (k+1) r
theorem fill_parts (sz:Nat):∀ (vs:List (Nat × Value)) (k:Nat) (pre post:List Value),partsOk sz k vs=true→pre.length=k * sz→post.length=vs.length * sz→
    Instr.fill (fun i=>some (i * sz,sz)) (pre++post).toArray vs=some (pre++(vs.map fun x=>x.2.cells.toList).flatten).toArray:=by
  intro vs;induction vs with
  | nil=>
    intro k pre post _ _ hpost;have:post=[]:=by simpa using hpost
    simp [Instr.fill,this]
  | cons x vs ih=>
    obtain ⟨i,v⟩:=x;intro k pre post hok hpre hpost;simp only [partsOk,Bool.and_eq_true,beq_iff_eq] at hok;obtain ⟨⟨hik,hv⟩,hr⟩:=hok;subst hik;have hlen:(pre++post).length=i * sz+(vs.length+1) * sz:=by rw [List.length_append,hpre,hpost];simp
    have hsz:sz≤(vs.length+1) * sz:=Nat.le_mul_of_pos_left _ om_;have hfold:∀ (cs:List Value) (a b:List Value),cs.length≤b.length→
        (cs.zipIdx).foldl (fun (acc:Array Value) (x:Value × Nat)=>acc.setIfInBounds (a.length+x.2) x.1) (a++b).toArray=(a++cs++b.drop cs.length).toArray:=by
      intro cs
      suffices H:∀ (cs:List Value) (j:Nat) (a b:List Value),cs.length≤b.length→
          (cs.zipIdx j).foldl (fun (acc:Array Value) (x:Value × Nat)=>acc.setIfInBounds (a.length+x.2 - j) x.1) (a++b).toArray=(a++cs++b.drop cs.length).toArray from
        fun a b h=>by simpa using H cs 0 a b h
      intro cs;induction cs with
      | nil=>intro j a b _;simp
      | cons c cs ihc=>
        intro j a b hb;cases b with
        | nil=>simp at hb
        | cons b0 b=>
          have h1:=ihc (j+1) (a++[c]) b (by simpa using hb);simp only [List.zipIdx_cons,List.foldl_cons];have e1:(a++b0 :: b).toArray.setIfInBounds (a.length+j - j) c=(a++[c]++b).toArray:=by
            simp
          rw [e1];have e2:(fun (acc:Array Value) (x:Value × Nat)=>acc.setIfInBounds (a.length+x.2 - j) x.1)=(fun (acc:Array Value) (x:Value × Nat)=>acc.setIfInBounds ((a++[c]).length+x.2 - (j+1)) x.1):=by
            funext acc x;congr 1;simp;omega
          rw [e2,h1];simp
    simp only [Instr.fill];have hno:¬ (v.cells.size≠sz || decide (i * sz+v.cells.size > (pre++post).toArray.size))=true:=by
      simp only [hv,List.size_toArray,hlen];simp;omega
    rw [if_neg hno];have h2:=hfold v.cells.toList pre post (by simp [hv,hpost];omega);rw [hpre] at h2;have e3:(Array.foldl (fun (cs:Array Value) (x:Value × Nat)=>cs.setIfInBounds (i * sz+x.2) x.1) (pre++post).toArray v.cells.zipIdx)=(pre++v.cells.toList++post.drop v.cells.toList.length).toArray:=by
      rw [← h2,← Array.foldl_toList,Array.toList_zipIdx]
    have e4:=ih (i+1) (pre++v.cells.toList) (post.drop v.cells.toList.length) hr (by simp [hpre,hv,Nat.add_mul]) (by simp [hpost,hv,Nat.add_mul]);simp only [List.map_cons,List.flatten_cons,← List.append_assoc];rw [← e4];exact congrArg (fun a=>Instr.fill (fun i=>some (i * sz,sz)) a vs) e3
theorem x_bs {T e:TypeId} {len sz:Nat} {ps:Array (Nat × Operand)} {t:TypeId} {vs:List (Nat × Value)} {cells:List Value}
    (hu:P.underlying T=some (.slice e)) (he:elT P e sz=true) (hp:ps.toList.map (fun x=>(x.1,ev E x.2))=vs) (hok:(partsOk sz 0 vs && decide (vs.length=len) && decide (0<len) && decide (len * sz≤16777216))=true)
    (hc:(vs.map fun x=>x.2.cells.toList).flatten=cells):X P (.buildSlice T len ps) t E w (.slice (some ⟨w.heap.size,0,none⟩) len len) (w.alloc (.cells cells.toArray e)):=by
  obtain ⟨i,z,hi,hz,hs,hzs,hpos,-⟩:=elT_spec he;simp only [Bool.and_eq_true,decide_eq_true_eq] at hok;obtain ⟨⟨⟨hok,hlen⟩,hl0⟩,hbig⟩:=hok;have hrun:=Go.run_buildSlice (P:=P) w T e len (ps.map fun x=>(x.1,ev E x.2)) cells.toArray i z hu hi hz (by rw [hs];omega) (by rw [hs];have:=Nat.mul_pos hl0 hpos;omega) (by
    have:=fill_parts sz vs 0 [] ((Array.range (len * sz)).map (z.cells[· % z.cells.size]!)).toList hok (by simp) (by simp [hlen]);rw [hs,Array.toList_map,hp];rw [List.nil_append,Array.toArray_toList,hc] at this;exact this)
  unfold X;simp only [execOp,Sem.run_bind,hrun];rfl
theorem L.bs {ops:Array Oper} {r:List Oper} {d:Nat} {T e:TypeId} {len sz:Nat} {ps:Array (Nat × Operand)} {t:TypeId} {p:String} {af:Array Edge} {vs:List (Nat × Value)} {cells:List Value}
    (hu:P.underlying T=some (.slice e)) (he:elT P e sz=true) (hp:ps.toList.map (fun x=>(x.1,ev E x.2))=vs) (hok:(partsOk sz 0 vs && decide (vs.length=len) && decide (0<len) && decide (len * sz≤16777216))=true)
    (hc:(vs.map fun x=>x.2.cells.toList).flatten=cells) (hd:Nat.blt d n=true)
    (k:∀ w1,Box w1 w.heap.size e cells→Bel w w1→w1.heap.size=w.heap.size+1→L P n ops Q r D (upd E d (.slice (some ⟨w.heap.size,0,none⟩) len len)) w1):
    L P n ops Q (⟨some d,.buildSlice T len ps,t,p,af,none⟩ :: r) D E w:=
  L.val (x_bs hu he hp hok hc) hd (k _ (box_alloc _ _ _) (bel_alloc _ _) (by simp))
def fillS (places:List (Nat × Nat)):List Value→List (Nat × Value)→Option (List Value)
  | zero,[]=>some zero
  | zero,(i,v) :: r=>match places[i]? with
    | none=>none
    | some (off,size)=>if v.cells.size=size∧off+size≤zero.length then fillS places (zero.take off++v.cells.toList++zero.drop (off+size)) r else none
theorem fill_S (places:List (Nat × Nat)):∀ (vs:List (Nat × Value)) (zero cells:List Value),fillS places zero vs=some cells→Instr.fill (places.toArray[·]?) zero.toArray vs=some cells.toArray:=by
  intro vs;induction vs with
  | nil=>intro zero cells h;simp only [fillS,Option.some.injEq] at h;simp [Instr.fill,h]
  | cons x vs ih=>
    obtain ⟨i,v⟩:=x;intro zero cells h;simp only [fillS] at h;simp only [Instr.fill,List.getElem?_toArray];cases hp:places[i]? with
    | none=>simp [hp] at h
    | some y=>
      obtain ⟨off,size⟩:=y;simp only [hp] at h;split at h
      · rename_i hc
        obtain ⟨h1,h2⟩:=hc;have hno:¬ (v.cells.size≠size || decide (off+v.cells.size > zero.toArray.size))=true:=by simp [h1];omega
        simp only;rw [if_neg hno,← ih _ _ h];have hfold:∀ (cs:List Value) (j:Nat) (a b:List Value),cs.length≤b.length→
            (cs.zipIdx j).foldl (fun (acc:Array Value) (x:Value × Nat)=>acc.setIfInBounds (a.length+x.2 - j) x.1) (a++b).toArray=(a++cs++b.drop cs.length).toArray:=by
          intro cs;induction cs with
          | nil=>intro j a b _;simp
          | cons c cs ihc=>
            intro j a b hb;cases b with
            | nil=>simp at hb
            | cons b0 b=>
              have h1:=ihc (j+1) (a++[c]) b (by simpa using hb);simp only [List.zipIdx_cons,List.foldl_cons];have e1:(a++b0 :: b).toArray.setIfInBounds (a.length+j - j) c=(a++[c]++b).toArray:=by
                simp
              rw [e1];have e2:(fun (acc:Array Value) (x:Value × Nat)=>acc.setIfInBounds (a.length+x.2 - j) x.1)=(fun (acc:Array Value) (x:Value × Nat)=>acc.setIfInBounds ((a++[c]).length+x.2 - (j+1)) x.1):=by
                funext acc x;congr 1;simp;omega
              rw [e2,h1];simp
        have h3:=hfold v.cells.toList 0 (zero.take off) (zero.drop off) (by simp [h1];omega);have e0:(zero.take off).length=off:=by simp;omega
        rw [List.take_append_drop,e0,Array.length_toList,h1,List.drop_drop] at h3;have e3:(Array.foldl (fun (cs:Array Value) (x:Value × Nat)=>cs.setIfInBounds (off+x.2) x.1) zero.toArray v.cells.zipIdx)=(zero.take off++v.cells.toList++zero.drop (off+size)).toArray:=by
          rw [← h3,← Array.foldl_toList,Array.toList_zipIdx];rfl
        have e5:=congrArg (fun a=>Instr.fill (places.toArray[·]?) a vs) e3;simp only [List.getElem?_toArray] at e5 ⊢;exact e5
      · cases h
def structInfo (P:Program) (s:TypeId):Option (List (Nat × Nat) × List Value):=
  match P.underlying s with
  | some (.struct fs)=>match (fs.toList.mapM fun f=>(P.info? f.type).map fun i=>(f.offset,i.size)),(P.info? s).bind (·.zero) with
    | some ps,some z=>some (ps,z.cells.toList)
    | _,_=>none
  | _=>none
theorem mapM_places (P:Program) (w:World):∀ (fs:List Field) (ps:List (Nat × Nat)),(fs.mapM fun f=>(P.info? f.type).map fun i=>(f.offset,i.size))=some ps→
    ((fs.mapM fun f=>do pure (f.offset,← sizeOf f.type):Sem (List (Nat × Nat)))).run P w=.ok ps w:=by
  intro fs;induction fs with
  | nil=>intro ps h;simp only [List.mapM_nil,Option.pure_def,Option.some.injEq] at h;subst h;simp
  | cons f fs ih=>
    intro ps h;simp only [List.mapM_cons,Option.bind_eq_bind,Option.pure_def] at h;cases hi:P.info? f.type with
    | none=>simp [hi] at h
    | some i=>
      simp only [hi,Option.map_some,Option.bind_some] at h;cases hm:(fs.mapM fun f=>(P.info? f.type).map fun i=>(f.offset,i.size)) with
      | none=>simp [hm] at h
      | some qs=>
        simp only [hm,Option.bind_some,Option.some.injEq] at h;have h2:=ih _ hm;subst h;simp only [List.mapM_cons,sizeOf,typeInfo,Sem.run_bind,Sem.run_pure,Result.andThen_ok,run_program,hi] at h2 ⊢;rw [h2];rfl
theorem x_build {ps:Array (Nat × Operand)} {t s:TypeId} {vs:List (Nat × Value)} {places:List (Nat × Nat)} {zero cells:List Value} (hs:structInfo P s=some (places,zero))
    (hp:ps.toList.map (fun x=>(x.1,ev E x.2))=vs) (hf:fillS places zero vs=some cells):X P (.build s ps) t E w (.agg cells.toArray) w:=by
  unfold X;unfold structInfo at hs;cases hu:P.underlying s with
  | none=>simp [hu] at hs
  | some ud=>
    cases ud <;> simp only [hu] at hs <;> try cases hs
    rename_i fs
    cases hz:(P.info? s).bind (·.zero) with
    | none=>simp [hz] at hs
    | some z=>
      cases hm:(fs.toList.mapM fun f=>(P.info? f.type).map fun i=>(f.offset,i.size)) with
      | none=>simp [hz,hm] at hs
      | some qs=>
        simp only [hz,hm,Option.some.injEq,Prod.mk.injEq] at hs;obtain ⟨rfl,rfl⟩:=hs;cases hi:P.info? s with
        | none=>simp [hi] at hz
        | some i=>
          simp only [hi,Option.bind_some] at hz;have hpl:=mapM_places P w fs.toList _ hm;have hpl':((fs.mapM fun f=>do pure (f.offset,← sizeOf f.type):Sem (Array (Nat × Nat)))).run P w=.ok qs.toArray w:=by
            rw [← Array.toArray_toList (xs:=fs),List.mapM_toArray];show Sem.run P ((fs.toList.mapM fun f=>do pure (f.offset,← sizeOf f.type):Sem (List (Nat × Nat))) >>= fun x=>pure x.toArray) w=_;rw [Sem.run_bind,hpl];rfl
          have hfl:=fill_S qs vs _ _ hf;have hv':(ps.map fun x=>(x.1,ev E x.2)).toList=vs:=by rw [Array.toList_map];exact hp
          rw [Array.toArray_toList] at hfl;simp only [execOp,Instr.build,zeroValue,typeInfo,Sem.run_bind,run_program,Result.andThen_ok,hi,hz,Sem.run_pure,run_underlying hu,hpl',hv',hfl]
end
theorem strs_of_box {A:Nat→Prop} {w:World} {b:Nat} {t:TypeId} (l:List Str) (h:Box w b t (l.map S)) (hA:¬ A b) (hl:l.length≤70368744177664) (hx:∀ x∈l,x.length≤9223372036854775807):StrsAt A w (.slice (some ⟨b,0,none⟩) l.length l.length) l:=
  ⟨_,_,rfl,Nat.le_refl _,by omega,hl,hx,fun _=>⟨b,0,rfl,hA,fun i hi=>h.cell0 (by simp [hi])⟩⟩
end Go.Gx
namespace Go.Gx
open Go.RowKit
section
variable {P:Program} {n:Nat} {Q:Post} {D:List Deferred} {E:Env} {w:World}
def finC (res:Env→Value) (R:Ending→World→Prop):Post:=fun e D E w=>
  match e with
  | .normal | .ret=>D=[]∧R (.returned (res E)) w
  | .panic c=>D=[]∧R (.panicked c) w
  | _=>False
theorem calls_of_W {f:FuncId} {fn:Func} {c:Code} {args:Array Value} {R:Ending→World→Prop} {res:Env→Value}
    (hf:P.funcs[f]? = some fn) (hb:fn.body=some c) (hn:args.size≤fn.ntmps)
    (hres:∀ a E,(∀ t,a.getD t undef=E t)→∀ w,(results fn a).run P w=.ok (res E) w)
    (h:W P fn.ntmps c (finC res R) [] (env0 args.toList) w):Calls P f args w R:=by
  refine calls_of_wp hf hb (wp_mono (h _ (fr0 hn)) ?_);rintro e a' w' ⟨he,E',hE,h1⟩;cases e <;> simp only [finC] at h1
  · exact ⟨h1.1,_,hres _ _ hE.get _,h1.2⟩
  · exact ⟨h1.1,_,hres _ _ hE.get _,h1.2⟩
  · exact ⟨h1.1,h1.2⟩
theorem finC_ret {res:Env→Value} {R:Ending→World→Prop} (h:R (.returned (res E)) w):finC res R .ret [] E w:=⟨rfl,h⟩
theorem finC_end {res:Env→Value} {R:Ending→World→Prop} (h:R (.returned (res E)) w):finC res R .normal [] E w:=⟨rfl,h⟩
theorem finC_pan {res:Env→Value} {R:Ending→World→Prop} {c:List PanicEntry} (h:R (.panicked c) w):finC res R (.panic c) [] E w:=⟨rfl,h⟩
def finD (fn:Func) (R:Ending→World→Prop) (P:Program):Post:=fun e D E w=>
  match e with
  | .normal | .ret=>∀ a,Fr D fn.ntmps a E→Leaves P fn a.tmps R D .returning w
  | .panic c=>∀ a,Fr D fn.ntmps a E→Leaves P fn a.tmps R D (.panicking c) w
  | _=>False
theorem calls_of_W_defers {f:FuncId} {fn:Func} {c:Code} {args:Array Value} {R:Ending→World→Prop}
    (hf:P.funcs[f]? = some fn) (hb:fn.body=some c) (hn:args.size≤fn.ntmps)
    (h:W P fn.ntmps c (finD fn R P) [] (env0 args.toList) w):Calls P f args w R:=by
  refine calls_of_wp_defers hf hb (wp_mono (h _ (fr0 hn)) ?_);rintro e a' w' ⟨he,E',hE,h1⟩;cases e <;> simp only [finD] at h1
  · exact h1 a' hE
  · exact h1 a' hE
  · exact h1 a' hE
theorem callsD_of_W {f:FuncId} {fn:Func} {id:Nat} {ops:Array Oper} {c:Code} {args:Array Value} {u u':FrameMode} {E1:Env} {R:Ending→FrameMode→World→Prop}
    (hf:P.funcs[f]? = some fn) (hb:fn.body=some (.seq (.region id ops false) c))
    (hrec:∀ (c₀ : Frame) (cs:List Frame) (Q:Exit→Act→List Frame→World→Prop),c₀.mode=u→(∀ a,Fr [] fn.ntmps a E1→Q .normal a ({ c₀ with mode:=u' } :: cs) w)→
      wpOpsS P ops Q (List.range ops.size) { tmps:=args++Array.replicate (fn.ntmps - args.size) undef,defers:=[] } (c₀ :: cs) w)
    (hres:fn.results=#[])
    (h:W P fn.ntmps c (finC (fun _=>.tuple #[]) (fun e w'=>R e u' w')) [] E1 w):CallsD P f args u w R:=by
  refine callsD_of_wpS hf hb fun c₀ cs hu=>wpS_seq (wpS_region ?_)
  refine hrec c₀ cs _ hu fun a hE=>?_
  simp only [Exit.thenS];refine wpS_of_wp (wp_mono (h a hE) ?_);rintro e a' w' ⟨he,E',hE',h1⟩;cases e <;> simp only [finC] at h1
  · exact ⟨h1.1,u',rfl,.tuple #[],results_none hres _ _ _,h1.2⟩
  · exact ⟨h1.1,u',rfl,.tuple #[],results_none hres _ _ _,h1.2⟩
  · exact ⟨h1.1,u',rfl,h1.2⟩
theorem run_loadVar_one {s:TypeId} {a:Addr} {v:Value} (ht:oneCellT P s=true) (hc:w.cell? a=some v):(loadVar s a).run P w=.ok v w:=by
  have hb:∀ w,(isAgg s).run P w=.ok false w:=by
    unfold oneCellT at ht;cases hu:P.underlying s with
    | none=>simp [hu] at ht
    | some d=>
      intro w;refine Go.Proofs.run_isAgg_plain hu ?_ w;cases d <;> simp_all
  simp [loadVar,hb,hc]
theorem resc3 {fn:Func} {a b c:Tmp} {ta tb tc:TypeId} {tmps:Array Value} {A B C:Addr} {va vb vc:Value} (h:fn.results=#[.cell a ta,.cell b tb,.cell c tc])
    (oa:oneCellT P ta=true) (ob:oneCellT P tb=true) (oc:oneCellT P tc=true)
    (ga:tmps.getD a undef=.pointer (some A)) (gb:tmps.getD b undef=.pointer (some B)) (gc:tmps.getD c undef=.pointer (some C))
    (ca:w.cell? A=some va) (cb:w.cell? B=some vb) (cc:w.cell? C=some vc):(results fn tmps).run P w=.ok (.tuple #[va,vb,vc]) w:=by
  rw [Array.getD_eq_getD_getElem?] at ga gb gc;simp [results,h,ga,gb,gc,asAddr,run_loadVar_one oa ca,run_loadVar_one ob cb,run_loadVar_one oc cc]
def LA (P:Program) (n:Nat) (ops:Array Oper) (Q:Post) (fuel:Nat) (listed:Array Bool) (D:List Deferred) (E:Env) (w:World):Prop:=
  ∀ a,Fr D n a E→wpAny P .any ops (lift n Q) fuel listed a w
def LAs (P:Program) (n:Nat) (ops:Array Oper) (Q:Post) (fuel:Nat) (listed:Array Bool) (D:List Deferred) (E:Env) (w:World):List Nat→Prop
  | []=>True
  | i :: r=>(∃ o,ops[i]? = some o∧L P n ops (thn (LA P n ops Q fuel (listed.setIfInBounds i true)) Q) [o] D E w)∧LAs P n ops Q fuel listed D E w r
theorem W.drawA {id:Nat} {l:List Oper} (hm:P.follows .mixedOrders=true) (h:LA P n l.toArray Q l.length (Array.replicate l.length false) D E w.drew):W P n (.region id l.toArray true) Q D E w:=by
  intro a ha;refine wp_region_any hm ?_;have:=h a ha;simpa using this
theorem LA.done {ops:Array Oper} {listed:Array Bool} (hr:Region.ready .any ops listed=[]) (h:Q .normal D E w):LA P n ops Q 0 listed D E w:=
  fun _ ha=>⟨hr,lift_mk (by simp) ha h⟩
theorem LA.step {ops:Array Oper} {fuel:Nat} {listed:Array Bool} {rs:List Nat} (hr:Region.ready .any ops listed=rs) (hne:rs≠[]) (h:LAs P n ops Q fuel listed D E w rs):LA P n ops Q (fuel+1) listed D E w:=by
  intro a ha;refine ⟨fun h0=>absurd (hr.symm.trans h0) hne,fun i hi=>?_⟩;rw [hr] at hi;have key:∀ rs:List Nat,LAs P n ops Q fuel listed D E w rs→i∈rs→∃ o,ops[i]? = some o∧L P n ops (thn (LA P n ops Q fuel (listed.setIfInBounds i true)) Q) [o] D E w:=by
    intro rs;induction rs with
    | nil=>intro _ hi;cases hi
    | cons j r ih=>
      intro hL hi;rcases List.mem_cons.1 hi with rfl | hi
      · exact hL.1
      · exact ih hL.2 hi
  obtain ⟨o,ho,hL⟩:=key rs h hi;have h1:=hL a ha;have hl:∀ e a w,lift n (thn (LA P n ops Q fuel (listed.setIfInBounds i true)) Q) e a w→Exit.then (wpAny P .any ops (lift n Q) fuel (listed.setIfInBounds i true)) (lift n Q) e a w:=by
    intro e a w ⟨h1,E',h2,h3⟩;cases e <;> simp only [thn,Exit.then] at h3 ⊢;case normal=>exact h3 a h2
    case outgrown=>exact absurd rfl h1
    all_goals exact ⟨by simp,E',h2,h3⟩
  unfold wpOp;rw [ho];simp only;unfold wpList at h1;split
  · rename_i hw
    rw [if_pos hw] at h1;rcases h1 with h1 | ⟨_,a',w',h1⟩
    · refine .inl ?_;unfold Oper.wp at h1 ⊢;generalize (execOp a.eval o).run P w=res at h1 ⊢;cases res with
      | ok x w'=>
        cases x <;> simp only [Oper.upon,wpList] at h1 ⊢ <;> try exact hl _ _ _ h1
        · refine h1.mono fun e w'' h=>?_
          cases e with
          | returned v=>exact hl _ _ _ h
          | panicked c=>exact hl _ _ _ h
          | outgrown=>obtain ⟨a',w',h⟩:=h;exact absurd rfl h.1
        · exact h1.mono fun v w'' h=>hl _ _ _ h
      | halt x w'=>cases x <;> simp only [Oper.upon] at h1 ⊢ <;> try exact hl _ _ _ h1
    · exact absurd rfl h1.1
  · rename_i hw;rw [if_neg hw] at h1;exact hl _ _ _ h1
theorem rec_region {Q:Exit→Act→List Frame→World→Prop} {d1 d2:Nat} {ts:Array TypeId} {t t2:TypeId} {p p2:String} {af af2:Array Edge} {a:Act} {cs cs':List Frame} {v:Value}
    (hr:recoverD cs=some (v,cs')∨(recoverD cs=none∧cs'=cs∧v=.nilIface)) (ha:Fr [] n a E) (h1:Nat.blt d1 n=true) (h2:Nat.blt d2 n=true)
    (hQ:∀ a',Fr [] n a' (upd (upd E d1 v) d2 v)→Q .normal a' cs' w):
    wpOpsS P #[⟨some d1,.call ⟨.builtin .recover,#[],ts⟩,t,p,af,none⟩,⟨some d2,.assign (.tmp d1),t2,p2,af2,none⟩] Q (List.range 2) a cs w:=by
  have e:List.range 2=[0,1]:=rfl;rw [e];have hrun:(execOp a.eval ⟨some d1,.call ⟨.builtin .recover,#[],ts⟩,t,p,af,none⟩).run P w=.ok .recover w:=rfl;have f1:=ha.put v h1;have f2:=f1.put v h2;have hrun2:(execOp (a.put (some d1) v).eval ⟨some d2,.assign (.tmp d1),t2,p2,af2,none⟩).run P w=.ok (.value v) w:=by
    rw [f1.eval];simp only [execOp,ev,upd_same];rfl
  have key:wpOpsS P #[⟨some d1,.call ⟨.builtin .recover,#[],ts⟩,t,p,af,none⟩,⟨some d2,.assign (.tmp d1),t2,p2,af2,none⟩] Q [1] (a.put (some d1) v) cs' w:=by
    simp only [wpOpsS,List.getElem?_toArray,List.getElem?_cons_succ,List.getElem?_cons_zero,Region.wanted,if_true];rw [hrun2];exact hQ _ f2
  rw [wpOpsS];simp only [List.getElem?_toArray,List.getElem?_cons_zero,Region.wanted,if_true];rw [hrun];rcases hr with hr | ⟨hr,rfl,rfl⟩
  · simp only [hr];exact key
  · simp only [hr];exact key
theorem x_nei {x:Operand} {t u z:TypeId} {tt:TypeId} {v:Value} {ms:Array (String × TypeId)} (hu:P.underlying u=some (.interface ms)) (hx:ev E x=.iface tt v):X P (.binOp .neq u x (.const .nilIface) z) t E w (.bool true) w:=by
  unfold X;have h (d:Nat):(Op.equalIn (d+1) u (.iface tt v) .nilIface).run P w=.ok false w:=by
    simp [Op.equalIn,run_underlying hu]
  have h1:(Op.equal u (.iface tt v) .nilIface).run P w=.ok false w:=h 9999;have hc:ev E (.const .nilIface)=.nilIface:=rfl;simp only [execOp,hx,hc,eqGuard_at_iface,binOp,Sem.run_bind,Sem.run_pure,Result.andThen_ok,h1];rfl
theorem x_nei0 {x:Operand} {t u z:TypeId} {ms:Array (String × TypeId)} (hu:P.underlying u=some (.interface ms)) (hx:ev E x=.nilIface):X P (.binOp .neq u x (.const .nilIface) z) t E w (.bool false) w:=by
  unfold X;have h (d:Nat):(Op.equalIn (d+1) u .nilIface .nilIface).run P w=.ok true w:=by
    simp [Op.equalIn,run_underlying hu]
  have h1:(Op.equal u .nilIface .nilIface).run P w=.ok true w:=h 9999;have hc:ev E (.const .nilIface)=.nilIface:=rfl;simp only [execOp,hx,hc,eqGuard_nil_constR,binOp,Sem.run_bind,Sem.run_pure,Result.andThen_ok,h1];rfl
theorem x_tas {x:Operand} {t u s:TypeId} {v:Value} {d:TypeDesc} (hu:P.underlying s=some d) (hd:(match d with | .interface _=>false | _=>true)=true) (hx:ev E x=.iface s v):X P (.typeAssert x u s true) t E w (.tuple #[v,.bool true]) w:=by
  unfold X;cases d <;> simp_all [execOp,Instr.typeAssert,run_underlying hu]
theorem L.defer {ops:Array Oper} {r:List Oper} {x:Operand} {xs:Array Operand} {ts:Array TypeId} {t:TypeId} {p:String} {af:Array Edge} {fn:Fn} {first cap vs:List Value}
    (hx:ev E x=.func fn first.toArray cap.toArray) (hv:first++xs.toList.map (ev E)=vs) (k:L P n ops Q r ({ target:=.fn fn cap.toArray,args:=vs.toArray } :: D) E w):
    L P n ops Q (⟨none,.defer ⟨.value x,xs,ts⟩,t,p,af,none⟩ :: r) D E w:=by
  intro a ha;refine wpList_plain rfl fun K hK=>?_
  unfold Oper.wp;have hv':first.toArray++xs.map (ev E)=vs.toArray:=by apply Array.ext';simpa using hv
  have hrun:(execOp a.eval ⟨none,.defer ⟨.value x,xs,ts⟩,t,p,af,none⟩).run P w=.ok (.defer { target:=.fn fn cap.toArray,args:=vs.toArray }) w:=by
    rw [ha.eval];simp only [execOp,resolve,hx,Deferred.ofValue,hv',Sem.run_bind];rfl
  rw [hrun,Oper.upon_defer];exact hK _ _ (k _ ⟨by rw [← ha.defers];rfl,ha.size,ha.get⟩)
theorem L.panic {ops:Array Oper} {r:List Oper} {x:Operand} {t tt:TypeId} {p:String} {af:Array Edge} {v:Value}
    (hx:ev E x=.iface tt v) (k:Q (.panic [{ v:=.iface tt v,recovered:=false }]) D E w):
    L P n ops Q (⟨none,.panic x,t,p,af,none⟩ :: r) D E w:=by
  intro a ha;refine wpList_plain rfl fun K hK=>?_
  unfold Oper.wp;have hrun:(execOp a.eval ⟨none,.panic x,t,p,af,none⟩).run P w=.halt (.panic (.iface tt v)) w:=by
    rw [ha.eval];simp only [execOp,hx,Sem.run_bind,run_panic_iface];rfl
  rw [hrun,Oper.upon_panic];exact lift_mk (by simp) ha k
theorem x_mkfn {fn:Fn} {first cap:Array Operand} {t:TypeId} {vs us:List Value} (h1:first.toList.map (ev E)=vs) (h2:cap.toList.map (ev E)=us):X P (.makeFunc fn first cap) t E w (.func fn vs.toArray us.toArray) w:=by
  unfold X;have h1':first.map (ev E)=vs.toArray:=by apply Array.ext';simpa using h1
  have h2':cap.map (ev E)=us.toArray:=by apply Array.ext';simpa using h2
  simp only [execOp,h1',h2'];rfl
theorem x_iface {x:Operand} {t s:TypeId} {v:Value} {d:TypeDesc} (hu:P.underlying s=some d) (hd:(match d with | .interface _=>false | _=>true)=true) (hx:ev E x=v):X P (.makeInterface s x) t E w (.iface s v) w:=by
  unfold X;cases d <;> simp_all [execOp,Instr.makeInterface,run_underlying hu]
theorem x_max {x y:Operand} {ts:Array TypeId} {t:TypeId} {k:IntKind} {a b:Int} (hx:ev E x=.int k a) (hy:ev E y=.int k b):X P (.call ⟨.builtin .max,#[x,y],ts⟩) t E w (.int k (max a b)) w:=by
  unfold X;have:(if b > a then b else a)=max a b:=by split <;> omega
  simp [execOp,resolve,invoke,builtin,hx,hy,run_max_int2,this]
theorem x_min {x y:Operand} {ts:Array TypeId} {t:TypeId} {k:IntKind} {a b:Int} (hx:ev E x=.int k a) (hy:ev E y=.int k b):X P (.call ⟨.builtin .min,#[x,y],ts⟩) t E w (.int k (min a b)) w:=by
  unfold X;have:(if b<a then b else a)=min a b:=by split <;> omega
  simp [execOp,resolve,invoke,builtin,hx,hy,Builtin.min_,Builtin.min2,this]
theorem L.setRow {ops:Array Oper} {r:List Oper} {x y:Operand} {s t:TypeId} {p:String} {af:Array Edge} {b k:Nat} {T:TypeId} {cs new:List Value} (hs:aggT P s k=true)
    (hx:ev E x=.pointer (some ⟨b,0,none⟩)) (hy:ev E y=.agg new.toArray) (hb:Box w b T cs) (hl:cs.length=k) (hn:new.length=k) (h1:∀ v∈new,v.oneCell'=true)
    (kk:∀ w1,Box w1 b T new→Gr (· = b) w w1→w1.heap.size=w.heap.size→L P n ops Q r D E w1):L P n ops Q (⟨none,.store s x y,t,p,af,none⟩ :: r) D E w:=by
  unfold aggT at hs;simp only [Bool.and_eq_true,beq_iff_eq] at hs;have hrun:=Go.run_storeVar_row (P:=P) w b T s cs.toArray new.toArray hb (by rw [hs.2];simp [hn]) (by simp [hl,hn]) (by rw [Array.all_eq_true_iff_forall_mem];intro v hv;exact h1 v (by simpa using hv));refine L.skip (w':=w.setRow b new.toArray) ?_ (kk _ (setRow_heap w b cs.toArray new.toArray T (0,0) hb) ⟨rfl,rfl,rfl,by simp [World.setRow],fun k _ hk=>setRow_other w b k _ hk⟩ (by simp [World.setRow]));unfold Xs;simp only [execOp,hx,hy,Instr.storeAt,Instr.sureAddr,Sem.run_bind,Sem.run_pure,Result.andThen_ok,hrun]
end
theorem StrsAt.one {A:Nat→Prop} {w:World} {v:Value} {l:List Str} (h:StrsAt A w v l):v.oneCell'=true:=by
  obtain ⟨p,cap,rfl,-⟩:=h;rfl
theorem ShC.one {A:Nat→Prop} {w:World} {cs:List Value} {s:Sh} (h:ShC A w cs s):∀ v∈cs,v.oneCell'=true:=by
  obtain ⟨vn,vp,rfl,hn,hp,-⟩:=h.inv;obtain ⟨p,cap,row,rfl,-⟩:=hp;intro v hv;simp only [List.mem_cons,List.not_mem_nil,or_false] at hv;rcases hv with rfl | rfl | rfl | rfl | rfl
  · rfl
  · rfl
  · rfl
  · exact hn.one
  · rfl
end Go.Gx
namespace Go.Gx
variable {P:Program} {n:Nat} {Q:Post} {D:List Deferred} {E:Env} {w:World}
theorem x_nil {x:Operand} {t:TypeId} {a:Addr} (hx:ev E x=.pointer (some a)):X P (.nilCheck x) t E w (.pointer (some a)) w:=by
  unfold X;simp [execOp,hx,go_sem]
def nrm (K:List Deferred→Env→World→Prop):Post:=fun e D E w=>e=.normal∧K D E w
theorem nrm_n {K:List Deferred→Env→World→Prop} (h:K D E w):nrm K .normal D E w:=⟨rfl,h⟩
theorem W.drawS {id:Nat} {l:List Oper} (hm:P.follows .mixedOrders=true) (h:LA P n l.toArray (nrm (Q .normal)) l.length (Array.replicate l.length false) D E w.drew):W P n (.region id l.toArray true) Q D E w:=by
  intro a ha;refine wp_mono (wp_region_any (Q:=lift n (nrm (Q .normal))) hm ?_) ?_
  · have:=h a ha;simpa using this
  · rintro e a' w' ⟨he,E',hE,rfl,hq⟩;exact ⟨he,E',hE,hq⟩
theorem LA.take {K:List Deferred→Env→World→Prop} {ops:Array Oper} {fuel:Nat} {listed:Array Bool} {i d:Nat} {op:Op} {t:TypeId} {p:String} {af:Array Edge} {v:Value}
    (ho:ops[i]? = some ⟨some d,op,t,p,af,none⟩) (hs:Region.noSelect ops=true) (hf:Region.free .any ops listed i=true) (hr:(Region.ready .any ops listed).contains i=true)
    (hx:∀ w,X P op t E w v w) (hd:Nat.blt d n=true) (k:LA P n ops (nrm K) fuel (listed.setIfInBounds i true) D (upd E d v) w):LA P n ops (nrm K) (fuel+1) listed D E w:=by
  intro a ha;refine wpAny_take ho hs hf hr ?_ (.inl ⟨by simp [Region.wanted],fun w=>?_⟩) (k _ (ha.put v hd))
  · rintro c a w ⟨_,E,_,h,_⟩;cases h
  · have:=hx w;unfold X at this;rw [execOp_bare,ha.eval];exact this
theorem wpQuiet_app {ops:Array Oper} {C:World→Prop} {Q:Act→Prop}:∀ (l r:List Oper) (a:Act),wpQuiet P ops C (wpQuiet P ops C Q r) l a→wpQuiet P ops C Q (l++r) a:=by
  intro l;induction l with
  | nil=>intro r a h;exact h
  | cons o l ih=>
    intro r a h;rw [List.cons_append];unfold wpQuiet at h ⊢;split
    · rename_i hw;rw [if_pos hw] at h
      obtain ⟨v,h1,h2⟩:=h;exact ⟨v,h1,ih _ _ h2⟩
    · rename_i hw;rw [if_neg hw] at h;exact ih _ _ h
theorem wpQuiet_mono {ops:Array Oper} {C:World→Prop} {Q Q':Act→Prop} (hq:∀ a,Q a→Q' a):∀ (l:List Oper) (a:Act),wpQuiet P ops C Q l a→wpQuiet P ops C Q' l a:=by
  intro l;induction l with
  | nil=>intro a h;exact hq _ h
  | cons o l ih=>
    intro a h;unfold wpQuiet at h ⊢;split
    · rename_i hw;rw [if_pos hw] at h
      obtain ⟨v,h1,h2⟩:=h;exact ⟨v,h1,ih _ h2⟩
    · rename_i hw;rw [if_neg hw] at h;exact ih _ h
theorem LQ.group {ops:Array Oper} {C:World→Prop} {K:Env→Prop} {l:List Oper} (k lo hi y dj:Nat) {b:Bool} (want:Bool) {v0:Bool} (_:E dj=.bool b)
    (hyes:b=want→LQ P n ops C (fun E'=>jeq lo hi E E'∧E' y=.bool v0) (l.take k) D E)
    (hno:b=(!want)→LQ P n ops C (fun E'=>jeq lo hi E E') (l.take k) D E)
    (kont:∀ J,(b=want→J y=.bool v0)→LQ P n ops C K (l.drop k) D (jnk lo hi J E)):LQ P n ops C K l D E:=by
  intro a ha;rw [← List.take_append_drop k l];refine wpQuiet_app _ _ _ ?_;have go:LQ P n ops C (fun E'=>jeq lo hi E E'∧(b=want→E' y=.bool v0)) (l.take k) D E:=by
    intro a ha;by_cases hb:b=want
    · exact wpQuiet_mono (fun a' ⟨E',h1,h2,h3⟩=>⟨E',h1,h2,fun _=>h3⟩) _ _ (hyes hb a ha)
    · exact wpQuiet_mono (fun a' ⟨E',h1,h2⟩=>⟨E',h1,h2,fun h=>absurd h hb⟩) _ _ (hno (by cases b <;> cases want <;> simp_all) a ha)
  refine wpQuiet_mono ?_ _ _ (go a ha);rintro a' ⟨E',h1,h2,h3⟩;rw [h2.eq] at h1;exact kont _ h3 a' h1
def Row {α : Type} (enc:α → Value) (w:World) (b o:Nat) (T:TypeId) (hd:List Value) (d:Array α) (tl:List Value):Prop:=
  hd.length=o∧Box w b T (hd++d.toList.map enc++tl)
section
variable {α : Type} {enc:α → Value} {b o:Nat} {T:TypeId} {hd tl:List Value} {d:Array α}
theorem Row.carryR {R:Nat→Prop} {w w':World} (h:Row enc w b o T hd d tl) (g:Gr R w w') (hn:¬ R b):Row enc w' b o T hd d tl:=⟨h.1,h.2.carryR g hn⟩
theorem Row.carry {w w':World} (h:Row enc w b o T hd d tl) (g:Bel w w'):Row enc w' b o T hd d tl:=⟨h.1,h.2.carry g⟩
theorem Row.lt {w:World} (h:Row enc w b o T hd d tl):b<w.heap.size:=h.2.lt
theorem Row.at [Inhabited α] {w:World} (h:Row enc w b o T hd d tl) {i:Nat} (hi:i<d.size):w.cell? ⟨b,o+i,none⟩=some (enc d[i]!):=by
  refine h.2.cell ?_;rw [List.append_assoc,List.getElem?_append_right (by have:=h.1;omega),h.1,show o+i - o=i by omega,List.getElem?_append_left (by simpa using hi)];simp [hi]
theorem Row.set {w:World} (h:Row enc w b o T hd d tl) {i:Nat} (hi:i<d.size) (x:α):Row enc (w.setCell ⟨b,o+i,none⟩ (enc x)) b o T hd (d.setIfInBounds i x) tl:=by
  refine ⟨h.1,?_⟩;have:=h.2.set (o+i) (enc x);have e:(hd++d.toList.map enc++tl).set (o+i) (enc x)=hd++(d.setIfInBounds i x).toList.map enc++tl:=by
    rw [List.append_assoc,List.set_append_right _ _ (by have:=h.1;omega),h.1,show o+i - o=i by omega,List.set_append_left _ _ (by simpa using hi),List.append_assoc];congr 2;rw [Array.toList_setIfInBounds,List.map_set]
  rw [e] at this;exact this
theorem Row.free {w:World} (h:Row enc w b o T hd d tl) (i:Nat):w.frozen? ⟨b,i,none⟩=false:=h.2.free i
theorem L.setAt [Inhabited α] {ops:Array Oper} {r:List Oper} {x y:Operand} {s t:TypeId} {p:String} {af:Array Edge} {j:Nat} {v:α} (hs:(P.info? s).map (·.size)=some 1)
    (hx:ev E x=.pointer (some ⟨b,o+j,none⟩)) (hy:ev E y=enc v) (h1:(enc v).oneCell'=true) (hb:Row enc w b o T hd d tl) (hi:j<d.size)
    (k:∀ w1,Row enc w1 b o T hd (d.setIfInBounds j v) tl→(d.setIfInBounds j v).size=d.size→Gr (· = b) w w1→w1.heap.size=w.heap.size→L P n ops Q r D E w1):L P n ops Q (⟨none,.store s x y,t,p,af,none⟩ :: r) D E w:=
  L.skip (x_st hs hx hy h1 (hb.at hi) (hb.free _)) (k _ (hb.set hi v) (by simp) (gr_setCell w ⟨b,o+j,none⟩ _) (by simp))
end
end Go.Gx
